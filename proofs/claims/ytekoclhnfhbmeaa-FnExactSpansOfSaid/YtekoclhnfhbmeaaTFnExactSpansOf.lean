/- Proved: for all arguments SpansOf of the program returns what SpansOf of the reference returns; it leaves its arguments as they were, and shares no memory. No condition. -/
import Derived.Below
import Derived.Deep.Draws
import Derived.Deep.AppendLies
import Derived.Maps.AppendAt
import Derived.OwnWalk
import Derived.Laws.BytesArg
import Derived.Laws.MakeOwn
import Derived.Laws.OwnMore
import Derived.Deep.OwnRows
import Derived.Tactics
import Derived.Lib.ConvBytes
import Derived.Laws.Slices
import Derived.WalkKit
import Derived.KernelRfl
import Derived.RowKit3
import Derived.Deep.LoopGhost
import Derived.Deep.QuietTactic
import Derived.BigQuiet
import Derived.WideLaws
import Derived.Deep.DeepCutAuto
import Derived.Deep.CutBlock
import Derived.Deep.RegionHeld3
import Derived.Laws.Rows
import Derived.Lib.AppendStr
import Derived.ArgAppend
import Derived.Laws.IdiomCopy
import Derived.RowKit
import Derived.OrdersHeld
import Derived.Laws.BitsLemmas
import Derived.Laws.StructEq
import Derived.Test.YtekoclhnfhbmeaaProg
import Derived.DataReads
import Derived.Deep.Slices
import Derived.OpenShut
import Derived.Shelf.Abstract
import Derived.StillTailTactics
import Derived.Test.YtekoclhnfhbmeaaRows
import Derived.ProofKit
import Derived.ShutString
import Derived.ChangeOld
import Derived.SizedLaws
import Derived.Test.YtekoclhnfhbmeaaTFnExactSpansOfp3
namespace Go.Proofs.Ytekoclhnfhbmeaa.P
open Go.RowKit Go.Proofs.YtekoclhnfhbmeaaW.PrintWords Go.Proofs.YtekoclhnfhbmeaaW.PrintLast Go.Proofs.YtekoclhnfhbmeaaW.PrintMore
attribute [local go_sem] max2_int min2_int max_two min_two max_three min_three max_four min_four
set_option linter.unusedVariables false
set_option linter.unusedSimpArgs false
def laws_markIntS.l0 : Nat → List Int → Int → Int → Option (Int × List Int)
  | 0, _, _, _ => none
  | k + 1, x0, x1, x5 => if x5 < (x0.length : Int) then (if 0 ≤ x5 then (laws_markIntS.l0 k (x0.set (x5 : Int).toNat x1) (wrap64 (x1 + 1)) (wrap64 (x5 + 1))) else (none)) else (some (x1, x0))
def laws_markIntS.f (k : Nat) (l0 : List Int) (a1 : Int) : Option (Int × List Int) := laws_markIntS.l0 k l0 a1 0
set_option maxHeartbeats 8000000 in
set_option maxRecDepth 100000 in
theorem laws_markIntS.calls (k : Nat) (P0_ : Nat → Prop) (u9000_ : Value) (l0 : List Int) (a1 : Int) (r1 : Int) (r2 : List Int) (w0 w : World) (hB : Below w0.heap.size w0 w) (ho0 : Kd.R (Kd.int .i64) 3 w w0.heap.size P0_ u9000_ l0) (h : laws_markIntS.f k l0 a1 = some (r1, r2)) :
    Calls Try.prog 35 #[u9000_, .int .i64 a1] w fun e w' => e = .returned (.int .i64 r1) ∧ Kd.R (Kd.int .i64) 3 w' w0.heap.size (fun k_ => (P0_ k_ ∨ w.heap.size ≤ k_)) u9000_ r2 ∧ Below w0.heap.size w0 w' ∧ Kept w w' (fun k_ => P0_ k_) := by
  have HO0 := Aside0.mk (show Kd.R (Kd.int .i64) 3 w w0.heap.size (fun k_ => (P0_ k_ ∨ w.heap.size ≤ k_)) u9000_ l0 from Kd.R_mono ho0 (fun k_ hk => (.inl hk)))
  have HK := Aside0.mk (Kept.refl w (fun k_ => P0_ k_))
  have HW0 := Aside0.mk hB.size
  have HB := Aside0.mk hB
  clear hB
  have H : (laws_markIntS.l0 k l0 a1 0) = some (r1, r2) := h
  clear h
  have H' := Aside0.mk H
  clear H
  go_enter Try.func35, Try.ntmps35
  go_wp2
  go_loopg [1, 5] k (fun kq v1 v5 w' => ∃ (x0_1 : List Int) (x1_1 : Int) (x5_1 : Int), v1 = .int .i64 x1_1 ∧ v5 = .int .i64 x5_1 ∧ Aside0 (laws_markIntS.l0 kq x0_1 x1_1 x5_1 = some (r1, r2)) ∧ Aside0 (kq ≤ k) ∧ Aside0 (Kd.R (Kd.int .i64) 3 w' w0.heap.size (fun k_ => (P0_ k_ ∨ w.heap.size ≤ k_)) u9000_ x0_1) ∧ Aside0 (Kept w w' (fun k_ => P0_ k_)) ∧ Aside0 (Below w0.heap.size w0 w'))
  case atStart => exact ⟨(l0), (a1), (0), (by first | rfl | (simp; done) | (simp [*]; done)), (by first | rfl | (simp; done) | (simp [*]; done)), H', ⟨Nat.le_refl _⟩, ⟨by (with_reducible repeat (first | apply Kd.R_alloc | apply Kd.R_drewN | apply Kd.R_drew)); exact HO0.out⟩, ⟨by repeat (first | (with_reducible first | exact HK.out | apply Kept.alloc | apply Kept.drewN | apply Kept.drew) | exact HK.out)⟩, ⟨by repeat (first | (with_reducible first | exact HB.out | apply below_alloc | apply pw_below_drewN | apply below_drew1) | exact HB.out)⟩⟩
  case round =>
    clear H'
    try clear p2
    obtain ⟨x0_1, x1_1, x5_1, rfl, rfl, HA, HK1, HO_0, HK, HB⟩ := hrel
    cases gk with
    | zero => exact absurd HA.out (by simp [laws_markIntS.l0])
    | succ k1 =>
      have H := HA.out
      clear HA
      simp only [laws_markIntS.l0] at H
      by_cases c3 : x5_1 < (x0_1.length : Int)
      · rw [if_pos c3] at H
        have c3b0 : decide (x5_1 < (x0_1.length : Int)) = true := decide_eq_true c3
        clear c3
        by_cases c4 : 0 ≤ x5_1
        · rw [if_pos c4] at H
          have c4b0 : decide (0 ≤ x5_1) = true := decide_eq_true c4
          clear c4
          obtain ⟨y101, hy101⟩ : ∃ y_ : List Int, y_ = (x0_1.set (x5_1 : Int).toNat x1_1) := ⟨_, rfl⟩
          replace H : (laws_markIntS.l0 k1 y101 (wrap64 (x1_1 + 1)) (wrap64 (x5_1 + 1))) = some (r1, r2) := by first | (rw [hy101]; with_reducible exact H) | (have H2_ := (Option.bind_some _ _).symm.trans H; rw [hy101]; with_reducible exact H2_) | (have H2_ := (Option.bind_some _ _).symm.trans H; with_reducible exact H2_) | with_reducible exact H | (rw [hy101]; exact H) | exact H
          have Ny101 := Aside0.mk hy101
          clear hy101
          have H' := Aside0.mk H
          clear H
          obtain ⟨Ao6, co6, eo6⟩ := Kd.R_slice HO_0.out
          subst eo6
          have p5 : 0 ≤ (x5_1 : Int) := of_decide_eq_true (by first | (with_reducible assumption) | assumption)
          have q5 : (x5_1 : Int) < ((x0_1.length : Int) : Int) := of_decide_eq_true (by first | (with_reducible assumption) | assumption)
          obtain ⟨go5, co5, eo5, gb5, gl5, cl5, HG5⟩ := Kd.R_form HO_0.out (by omega)
          (first | cases eo5 | (injection eo5 with ea_ en_ ec_; (first | subst ea_ | (injection ea_ with ea_; subst ea_)); subst ec_; clear en_))
          have GB5 := Aside0.mk gb5
          have GG5 := Aside0.mk HG5
          clear gb5 gl5 HG5
          have HMgo5 := Aside0.mk (show (P0_ go5 ∨ w.heap.size ≤ go5) from (HO_0.out.1 _ rfl))
          obtain ⟨hx5_0, hf5_0⟩ := Kd.R_celln 0 HO_0.out (x5_1 : Int) p5 q5
          replace p5 := eq_true p5
          replace q5 := eq_true q5
          have HP7 := Kd.R_putg HO_0.out (x5_1 : Int) x1_1
          go_wp2_with (first | ((with_reducible refine gate_store (t := 3) (p := 15) rfl ?_); refine store_event (t := 3) (p := 15) (v := ?vo_w8) (w1 := (wr.setCell ⟨go5, (x5_1 : Int).toNat, none⟩ (.int .i64 x1_1))) ?hg ?ho ?hn ?hr ?_; (case ho => rfl); (case hg => rfl); (case hn => rfl); (case hr => first | (go_simp; done) | (go_simp; rfl)); intro w8 hw; have hg : wr.grownBy w8 (some go5) := (by rw [hw]; exact HP7.2); have hp_ : Kd.R (Kd.int .i64) 3 w8 w0.heap.size (fun k_ => (P0_ k_ ∨ w.heap.size ≤ k_)) (.slice (some ⟨go5, 0, none⟩) x0_1.length co6) y101 := (by rw [hw, Ny101.out]; exact HP7.1); clear HP7; have n0_ := Aside0.mk (hp_); have n1_ := Aside0.mk ((by rw [hw]; exact below_set (HB.out) GB5.out : Below w0.heap.size w0 w8)); have n2_ := Aside0.mk (Kept.of_grown (S := (fun k_ => P0_ k_)) hg (by repeat (first | (with_reducible first | exact HK.out | apply Kept.alloc | apply Kept.drewN | apply Kept.drew) | exact HK.out)) (fun k_ e_ => (HO_0.out.1 k_ e_))); clear HO_0; clear HB; clear HK; have HO_0 := n0_; have HB := n1_; have HK := n2_; clear n0_ n1_ n2_; clear hg hw hp_))
          go_roundg k1
          case measure => have := HK1.out; omega
          case rel => exact ⟨(y101), (wrap64 (x1_1 + 1)), (wrap64 (x5_1 + 1)), (by first | rfl | (simp; done) | (simp [*]; done)), (by first | rfl | (simp; done) | (simp [*]; done)), H', ⟨by have := HK1.out; omega⟩, ⟨by (with_reducible repeat (first | apply Kd.R_alloc | apply Kd.R_drewN | apply Kd.R_drew)); exact HO_0.out⟩, ⟨by repeat (first | (with_reducible first | exact HK.out | apply Kept.alloc | apply Kept.drewN | apply Kept.drew) | exact HK.out)⟩, ⟨by repeat (first | (with_reducible first | exact HB.out | apply below_alloc | apply pw_below_drewN | apply below_drew1) | exact HB.out)⟩⟩
        · rw [if_neg c4] at H
          exact absurd H (by simp)
      · rw [if_neg c3] at H
        have c3b0 : decide (x5_1 < (x0_1.length : Int)) = false := decide_eq_false c3
        clear c3
        simp only [Option.some.injEq, Prod.mk.injEq] at H
        obtain ⟨rfl, rfl⟩ := H
        obtain ⟨Ao9, co9, eo9⟩ := Kd.R_slice HO_0.out
        subst eo9
        go_wp2
        go_ret
        exact ⟨by first | rfl | (simp [errW_none, errW_some] <;> rfl) | (simp [*, errW_none, errW_some] <;> rfl), by (with_reducible repeat (first | apply Kd.R_alloc | apply Kd.R_drewN | apply Kd.R_drew)); exact HO_0.out, by repeat (first | (with_reducible first | exact HB.out | apply below_alloc | apply pw_below_drewN | apply below_drew1) | exact HB.out), by repeat (first | (with_reducible first | exact HK.out | apply Kept.alloc | apply Kept.drewN | apply Kept.drew) | exact HK.out)⟩
end Go.Proofs.Ytekoclhnfhbmeaa.P
namespace Go.Proofs.Ytekoclhnfhbmeaa.P
open Go.RowKit Go.Proofs.YtekoclhnfhbmeaaW.PrintWords Go.Proofs.YtekoclhnfhbmeaaW.PrintLast Go.Proofs.YtekoclhnfhbmeaaW.PrintMore
attribute [local go_sem] max2_int min2_int max_two min_two max_three min_three max_four min_four
set_option linter.unusedVariables false
set_option linter.unusedSimpArgs false
def laws_heldIntS.l0 : Nat → List Int → Int → Int → Option (Int)
  | 0, _, _, _ => none
  | k + 1, x0, x1, x5 => if x5 < (x0.length : Int) then (if 0 ≤ x5 then (if (rd x0 x5) = x1 then (laws_heldIntS.l0 k x0 (wrap64 (x1 + 1)) (wrap64 (x5 + 1))) else (some (-1))) else (none)) else (some x1)
def laws_heldIntS.f (k : Nat) (l0 : List Int) (a1 : Int) : Option (Int) := laws_heldIntS.l0 k l0 a1 0
set_option maxHeartbeats 8000000 in
set_option maxRecDepth 100000 in
theorem laws_heldIntS.calls (k : Nat) (A0 : Option Addr) (c0 : Nat) (l0 : List Int) (a1 : Int) (r : Int) (w : World) (hr0 : Kd.C (Kd.int .i64) w A0 l0.length l0) (hc0 : l0.length ≤ c0) (h : laws_heldIntS.f k l0 a1 = some r) :
    Calls Try.prog 42 #[.slice A0 l0.length c0, .int .i64 a1] w fun e w' => e = .returned (.int .i64 r) ∧ Drawn0 w w' := by
  have HR0 := Aside0.mk hr0
  have HC0 := Aside0.mk hc0
  clear hr0 hc0
  have H : (laws_heldIntS.l0 k l0 a1 0) = some r := h
  clear h
  have H' := Aside0.mk H
  clear H
  go_enter Try.func42, Try.ntmps42
  go_wp2
  go_loopg [1, 5] k (fun kq v1 v5 w' => ∃ (x1_1 : Int) (x5_1 : Int), v1 = .int .i64 x1_1 ∧ v5 = .int .i64 x5_1 ∧ Aside0 (laws_heldIntS.l0 kq l0 x1_1 x5_1 = some r) ∧ Aside0 (kq ≤ k) ∧ Drawn0 w w')
  case atStart => exact ⟨(a1), (0), (by first | rfl | (simp; done) | (simp [*]; done)), (by first | rfl | (simp; done) | (simp [*]; done)), H', ⟨Nat.le_refl _⟩, by repeat (first | exact Drawn0.refl _ | apply Drawn0.step)⟩
  case round =>
    clear H'
    try clear p2
    obtain ⟨x1_1, x5_1, rfl, rfl, HA, HK1, ⟨m1, rfl⟩⟩ := hrel
    cases gk with
    | zero => exact absurd HA.out (by simp [laws_heldIntS.l0])
    | succ k1 =>
      have H := HA.out
      clear HA
      simp only [laws_heldIntS.l0] at H
      by_cases c3 : x5_1 < (l0.length : Int)
      · rw [if_pos c3] at H
        have c3b0 : decide (x5_1 < (l0.length : Int)) = true := decide_eq_true c3
        clear c3
        by_cases c4 : 0 ≤ x5_1
        · rw [if_pos c4] at H
          have c4b0 : decide (0 ≤ x5_1) = true := decide_eq_true c4
          clear c4
          by_cases c5 : (rd l0 x5_1) = x1_1
          · rw [if_pos c5] at H
            have c5b0 : ((rd l0 x5_1) == x1_1) = true := beq_iff_eq.mpr c5
            have c5b1 : ((rd l0 x5_1) != x1_1) = false := bne_eq_false_iff_eq.mpr c5
            clear c5
            have H' := Aside0.mk H
            clear H
            have p101 : 0 ≤ (x5_1 : Int) := of_decide_eq_true (by first | (with_reducible assumption) | assumption)
            have q101 : x5_1 < (l0.length : Int) := of_decide_eq_true (by first | (with_reducible assumption) | assumption)
            obtain ⟨ad101, e101, hx101_0⟩ := Kd.at_int HR0.out x5_1 p101 q101
            cases e101
            replace p101 := eq_true p101
            replace q101 := eq_true q101
            go_wp2
            go_roundg k1
            case measure => have := HK1.out; omega
            case rel => exact ⟨(wrap64 (x1_1 + 1)), (wrap64 (x5_1 + 1)), (by first | rfl | (simp; done) | (simp [*]; done)), (by first | rfl | (simp; done) | (simp [*]; done)), H', ⟨by have := HK1.out; omega⟩, by repeat (first | exact Drawn0.refl _ | apply Drawn0.step)⟩
          · rw [if_neg c5] at H
            have c5b0 : ((rd l0 x5_1) == x1_1) = false := beq_eq_false_iff_ne.mpr c5
            have c5b1 : ((rd l0 x5_1) != x1_1) = true := bne_iff_ne.mpr c5
            obtain rfl := Option.some.inj H
            have p101 : 0 ≤ (x5_1 : Int) := of_decide_eq_true (by first | (with_reducible assumption) | assumption)
            have q101 : x5_1 < (l0.length : Int) := of_decide_eq_true (by first | (with_reducible assumption) | assumption)
            obtain ⟨ad101, e101, hx101_0⟩ := Kd.at_int HR0.out x5_1 p101 q101
            cases e101
            replace p101 := eq_true p101
            replace q101 := eq_true q101
            go_wp2
            go_ret
            exact ⟨by first | rfl | (simp; done) | (simp [*]; done), by repeat (first | exact Drawn0.refl _ | apply Drawn0.step)⟩
        · rw [if_neg c4] at H
          exact absurd H (by simp)
      · rw [if_neg c3] at H
        have c3b0 : decide (x5_1 < (l0.length : Int)) = false := decide_eq_false c3
        clear c3
        obtain rfl := Option.some.inj H
        go_wp2
        go_ret
        exact ⟨by first | rfl | (simp; done) | (simp [*]; done), by repeat (first | exact Drawn0.refl _ | apply Drawn0.step)⟩
end Go.Proofs.Ytekoclhnfhbmeaa.P
namespace Go.Proofs.Ytekoclhnfhbmeaa.P
open Go.RowKit Go.Proofs.YtekoclhnfhbmeaaW.PrintWords Go.Proofs.YtekoclhnfhbmeaaW.PrintLast Go.Proofs.YtekoclhnfhbmeaaW.PrintMore
set_option linter.unusedVariables false
set_option linter.unusedSimpArgs false
def ramp (n : Int) : Nat → List Int
  | 0 => []
  | m + 1 => ramp n m ++ [n + m]
theorem ramp_len (n : Int) (m : Nat) : (ramp n m).length = m := by
  induction m with
  | zero => rfl
  | succ m ih => simp [ramp, ih]
theorem ramp_get (n : Int) (m i : Nat) (h : i < m) : (ramp n m).getD i 0 = n + i := by
  induction m with
  | zero => omega
  | succ m ih =>
    simp only [ramp, List.getD_eq_getElem?_getD]
    by_cases e : i < m
    · rw [List.getElem?_append_left (by rw [ramp_len]; exact e), ← List.getD_eq_getElem?_getD]; exact ih e
    · obtain rfl : i = m := by omega
      rw [List.getElem?_append_right (by rw [ramp_len]; omega)]; simp [ramp_len]
theorem markIntS_loop (l : List Int) (hl : l.length ≤ 1152921504606846976) (n : Int) (hn : 0 ≤ n) (hn' : n ≤ 1152921504606846976) (d : Nat) : ∀ (k i : Nat), i ≤ l.length → l.length - i = d → d < k →
    laws_markIntS.l0 k (ramp n i ++ l.drop i) (n + i) i = some (n + (l.length : Int), ramp n l.length) := by
  induction d with
  | zero =>
    intro k i h1 hd hk
    obtain ⟨k, rfl⟩ : ∃ m, k = m + 1 := ⟨k - 1, by omega⟩
    obtain rfl : i = l.length := by omega
    simp only [laws_markIntS.l0]
    rw [if_neg (by simp [ramp_len])]
    simp
  | succ d ih =>
    intro k i h1 hd hk
    obtain ⟨k, rfl⟩ : ∃ m, k = m + 1 := ⟨k - 1, by omega⟩
    simp only [laws_markIntS.l0]
    rw [if_pos (by simp [ramp_len]; omega), if_pos (by omega)]
    have e1 : wrap64 ((i : Int) + 1) = ((i + 1 : Nat) : Int) := by unfold wrap64; omega
    have e2 : wrap64 (n + (i : Int) + 1) = n + ((i + 1 : Nat) : Int) := by unfold wrap64; omega
    have e3 : (ramp n i ++ l.drop i).set (i : Int).toNat (n + i) = ramp n (i + 1) ++ l.drop (i + 1) := by
      rw [getD_drop l i 0 (by omega), Int.toNat_natCast, set_mid _ _ _ _ _ (ramp_len n i)]
      simp [ramp]
    rw [e1, e2, e3]
    exact ih k (i + 1) (by omega) (by omega) (by omega)
theorem markIntS_eq (l : List Int) (hl : l.length ≤ 1152921504606846976) (n : Int) (hn : 0 ≤ n) (hn' : n ≤ 1152921504606846976) (k : Nat) (hk : l.length < k) : laws_markIntS.f k l n = some (n + (l.length : Int), ramp n l.length) := by
  have := markIntS_loop l hl n hn hn' l.length k 0 (by omega) (by omega) hk
  unfold laws_markIntS.f
  simpa [ramp] using this
theorem heldIntS_loop (m : Nat) (hm : m ≤ 1152921504606846976) (n : Int) (hn : 0 ≤ n) (hn' : n ≤ 1152921504606846976) (d : Nat) : ∀ (k i : Nat), i ≤ m → m - i = d → d < k →
    laws_heldIntS.l0 k (ramp n m) (n + i) i = some (n + (m : Int)) := by
  induction d with
  | zero =>
    intro k i h1 hd hk
    obtain ⟨k, rfl⟩ : ∃ m, k = m + 1 := ⟨k - 1, by omega⟩
    obtain rfl : i = m := by omega
    simp only [laws_heldIntS.l0]
    rw [if_neg (by simp [ramp_len])]
  | succ d ih =>
    intro k i h1 hd hk
    obtain ⟨k, rfl⟩ : ∃ m, k = m + 1 := ⟨k - 1, by omega⟩
    simp only [laws_heldIntS.l0]
    rw [if_pos (by simp [ramp_len]; omega), if_pos (by omega), if_pos (by unfold rd; simpa using ramp_get n m i (by omega))]
    have e1 : wrap64 ((i : Int) + 1) = ((i + 1 : Nat) : Int) := by unfold wrap64; omega
    have e2 : wrap64 (n + (i : Int) + 1) = n + ((i + 1 : Nat) : Int) := by unfold wrap64; omega
    rw [e1, e2]
    exact ih k (i + 1) (by omega) (by omega) (by omega)
theorem heldIntS_eq (m : Nat) (hm : m ≤ 1152921504606846976) (n : Int) (hn : 0 ≤ n) (hn' : n ≤ 1152921504606846976) (k : Nat) (hk : m < k) : laws_heldIntS.f k (ramp n m) n = some (n + (m : Int)) := by
  have := heldIntS_loop m hm n hn hn' m k 0 (by omega) (by omega) hk
  unfold laws_heldIntS.f
  simpa using this
theorem markIntS_calls (P0_ : Nat → Prop) (u : Value) (l0 : List Int) (a1 : Int) (w0 w : World) (hB : Below w0.heap.size w0 w) (ho0 : Kd.R (Kd.int .i64) 3 w w0.heap.size P0_ u l0) (ha : 0 ≤ a1) (hs : a1 + (l0.length : Int) ≤ 1152921504606846976) :
    Calls Try.prog 35 #[u, .int .i64 a1] w fun e w' => e = .returned (.int .i64 (a1 + (l0.length : Int))) ∧ Kd.R (Kd.int .i64) 3 w' w0.heap.size P0_ u (ramp a1 l0.length) ∧ Below w0.heap.size w0 w' ∧ Kept w w' P0_ := by
  refine (laws_markIntS.calls (l0.length + 1) P0_ u l0 a1 _ _ w0 w hB ho0 (markIntS_eq l0 (by omega) a1 ha (by omega) (l0.length + 1) (by omega))).mono ?_
  rintro e w' ⟨he, ho, hb, hk⟩
  exact ⟨he, Kd.R_mono (Kd.R_tight rfl ho) (fun q hq => ho0.1 q hq.symm), hb, hk⟩
end Go.Proofs.Ytekoclhnfhbmeaa.P
namespace Go.Proofs.Ytekoclhnfhbmeaa.P
open Go.RowKit Go.Proofs.YtekoclhnfhbmeaaW.PrintWords Go.Proofs.YtekoclhnfhbmeaaW.PrintLast Go.Proofs.YtekoclhnfhbmeaaW.PrintMore
set_option linter.unusedVariables false
set_option linter.unusedSimpArgs false
def szR : List S87 → Nat
  | [] => 0
  | r :: l => 1 + r.f1.length + szR l
def mkR : List S87 → Int → List S87
  | [], _ => []
  | r :: l, a => ⟨a, ramp (a + 1) r.f1.length⟩ :: mkR l (a + 1 + r.f1.length)
theorem mkR_len (l : List S87) : ∀ a, (mkR l a).length = l.length := by
  induction l with
  | nil => intro a; rfl
  | cons r l ih => intro a; simp [mkR, ih]
theorem szR_append (l m : List S87) : szR (l ++ m) = szR l + szR m := by
  induction l with
  | nil => simp [szR]
  | cons r l ih => simp only [List.cons_append, szR, ih]; omega
theorem mkR_append (l m : List S87) : ∀ a, mkR (l ++ m) a = mkR l a ++ mkR m (a + szR l) := by
  induction l with
  | nil => intro a; simp [szR, mkR]
  | cons r l ih => intro a; simp only [List.cons_append, mkR, szR, ih]; congr 3; omega
theorem szR_take (l : List S87) (i : Nat) : szR (l.take i) ≤ szR l := by
  have := szR_append (l.take i) (l.drop i)
  rw [List.take_append_drop] at this
  omega
theorem szR_len (l : List S87) : l.length ≤ szR l := by
  induction l with
  | nil => simp [szR]
  | cons r l ih => simp only [List.length_cons, szR]; omega
theorem szR_small (l : List S87) (hs : ∀ i : Nat, i < l.length → (rd_T87 l i).f1.length ≤ 1048576) : szR l ≤ l.length * 1048577 := by
  induction l with
  | nil => simp [szR]
  | cons r l ih =>
    have h0 := hs 0 (by simp)
    have h1 := ih (fun i hi => by
      have := hs (i + 1) (by simp; omega)
      have e : rd_T87 (r :: l) ((i + 1 : Nat) : Int) = rd_T87 l (i : Int) := by unfold rd_T87; simp
      rw [e] at this; exact this)
    have e0 : (rd_T87 (r :: l) ((0 : Nat) : Int)) = r := by unfold rd_T87; simp
    rw [e0] at h0
    simp only [szR, List.length_cons]
    omega
theorem szR_bound {l : List S87} (hs : smallI l) : (szR l : Int) ≤ 1152921504606846 := by
  have h1 := szR_small l hs.2
  have h2 := hs.1
  have : l.length * 1048577 ≤ 1048576 * 1048577 := Nat.mul_le_mul_right _ h2
  omega
set_option maxHeartbeats 4000000 in
set_option maxRecDepth 100000 in
theorem markRuleS_calls (P0_ : Nat → Prop) (u : Value) (l0 : List S87) (a1 : Int) (w0 w : World) (hB : Below w0.heap.size w0 w) (ho0 : Kd.S k87 87 w w0.heap.size P0_ u l0)
    (ha : 0 ≤ a1) (hs : a1 + szR l0 ≤ 1152921504606846976) :
    Calls Try.prog 58 #[u, .int .i64 a1] w fun e w' => e = .returned (.int .i64 (a1 + szR l0)) ∧ Kd.S k87 87 w' w0.heap.size P0_ u (mkR l0 a1) ∧ Below w0.heap.size w0 w' ∧ Kept w w' P0_ := by
  have HO := Aside0.mk ho0
  have HB := Aside0.mk hB
  have HW := Aside0.mk hB.size
  have hlen := szR_len l0
  have HS := Aside0.mk hs
  clear ho0 hB hs
  go_enter Try.func58, Try.ntmps58
  go_wp2
  go_loopg [1, 5] l0.length (fun gg s1 s5 wr => ∃ kk : Nat, kk ≤ l0.length ∧ l0.length - kk ≤ gg ∧ s5 = .int .i64 kk ∧ s1 = .int .i64 (a1 + szR (l0.take kk)) ∧ Aside0 (Kd.S k87 87 wr w0.heap.size P0_ u (mkR (l0.take kk) a1 ++ l0.drop kk)) ∧ Aside0 (Below w0.heap.size w0 wr) ∧ Aside0 (Kept w wr P0_))
  case atStart => exact ⟨0, Nat.zero_le _, by omega, rfl, by simp [szR], ⟨by simpa [mkR] using HO.out⟩, HB, ⟨Kept.refl _ _⟩⟩
  case round =>
    clear HO HB
    obtain ⟨kk, hkk, hg, rfl, rfl, HO, HB, HK⟩ := hrel
    have hb1 := szR_take l0 kk
    by_cases hlt : kk < l0.length
    · obtain ⟨y, hy⟩ : ∃ y, y = l0.getD kk z87 := ⟨_, rfl⟩
      have ed := getD_drop l0 kk z87 hlt
      have et := take_getD l0 kk z87 hlt
      rw [← hy] at ed et
      have esz : szR (l0.take (kk + 1)) = szR (l0.take kk) + (1 + y.f1.length) := by rw [et, szR_append]; simp [szR]
      have hb2 := szR_take l0 (kk + 1)
      have emk : ∀ z, z = (⟨a1 + szR (l0.take kk), ramp (a1 + szR (l0.take kk) + 1) y.f1.length⟩ : S87) → (mkR (l0.take kk) a1 ++ l0.drop kk).set kk z = mkR (l0.take (kk + 1)) a1 ++ l0.drop (kk + 1) := by
        rintro z rfl
        rw [ed, set_mid _ _ _ _ _ (by rw [mkR_len, List.length_take]; omega), et, mkR_append]
        simp [mkR]
      have elen : (mkR (l0.take kk) a1 ++ l0.drop kk).length = l0.length := by rw [List.length_append, mkR_len, List.length_take, List.length_drop]; omega
      have eget : (mkR (l0.take kk) a1 ++ l0.drop kk).getD kk z87 = y := by
        rw [ed, List.getD_eq_getElem?_getD, List.getElem?_append_right (by rw [mkR_len, List.length_take]; omega), mkR_len, List.length_take, Nat.min_eq_left hkk, Nat.sub_self]; rfl
      have EM := Aside0.mk emk
      have ES := Aside0.mk esz
      have LN := Aside0.mk elen
      clear emk esz ed et hy
      obtain ⟨xs, hxs⟩ : ∃ xs, xs = mkR (l0.take kk) a1 ++ l0.drop kk := ⟨_, rfl⟩
      rw [← hxs] at HO EM LN eget
      obtain ⟨go, co, eo, gb, gl, cl, HG⟩ := Kd.S_form HO.out (by rw [LN.out]; omega)
      subst eo
      obtain ⟨oki, c, hcl, hM, hcc, hfr, hoki, hH⟩ := Kd.S_elem HO.out z87 (kk : Int) (by omega) (by rw [LN.out]; omega)
      rw [Int.toNat_natCast, eget] at hM
      obtain ⟨v1, rfl, hR⟩ := k87_openM hM
      have hx0 : wr.cell? ⟨go, kk * 2, none⟩ = some (.int .i64 y.f0) := hcc 0 _ rfl
      have hx1 : wr.cell? ⟨go, kk * 2 + 1, none⟩ = some v1 := hcc 1 _ rfl
      have hf0 : wr.frozen? ⟨go, kk * 2, none⟩ = false := hfr 0
      have hP : P0_ go := (Kd.S_R HO.out).1 go rfl
      obtain ⟨s, hs⟩ : ∃ s : Int, s = a1 + szR (l0.take kk) := ⟨_, rfl⟩
      rw [← hs] at EM
      rw [← hs]
      have hs0 : 0 ≤ s := by omega
      have hs1 : s ≤ 1152921504606846976 := by have := HS.out; omega
      have hyl : y.f1.length ≤ 1152921504606846976 := by have := HS.out; have := ES.out; omega
      have hs2 : s + 1 ≤ 1152921504606846976 := by have := HS.out; have := ES.out; omega
      have hsz : xs.length = l0.length := LN.out
      have hd : decide (kk < xs.length) = true := decide_eq_true (by omega)
      have hlt2 : kk < xs.length := by omega
      have hmx : xs.length ≤ 9223372036854775807 := by have := HS.out; omega
      have GB := Aside0.mk gb
      have HH := Aside0.mk hH
      have HR := Aside0.mk hR
      have OI := Aside0.mk hoki
      have PG := Aside0.mk hP
      have L := Aside0.mk hlt
      have SV := Aside0.mk hs
      have EMM := EM
      clear hcl hcc hfr hM hH hR hoki hP gb gl HG eget hs hlt hxs EM hsz
      go_wp2_with (go_at_call 35; refine (laws_markIntS.calls (y.f1.length + 1) oki v1 y.f1 (s + 1) _ _ w0 _ (below_set HB.out GB.out) (Kd.R_far HR.out (fun k hk => (OI.out k hk).2) _) (markIntS_eq y.f1 hyl (s + 1) (by omega) hs2 (y.f1.length + 1) (by omega))).mono ?_; rintro e w' ⟨rfl, ho, hb, hk⟩; have NB := Aside0.mk hb; have NO := Aside0.mk ho; have NK := Aside0.mk hk; clear ho hb hk)
      go_roundg (l0.length - (kk + 1))
      case measure => have := L.out; omega
      case rel =>
        refine ⟨kk + 1, by have := L.out; omega, by omega, by go_num, ?_, ?_, NB, ?_⟩
        · rw [ES.out]
          have := SV.out
          congr 1
          omega
        · have H1 := (Kd.H_seg HH.out (by omega) (by omega) (seg := [.int .i64 s]) (j := 0) (show 0 + 1 ≤ 2 by decide) (by intro q hq; rw [List.mem_singleton.1 hq]; rfl)).1
          have H2 := Kd.H_kept H1 NK.out (fun k _ hno hs => hno hs)
          have hR1 := HR.out.1
          have H3 := Kd.H_back H2 (x' := ⟨s, ramp (s + 1) y.f1.length⟩) (k87_mkM _ _ _ (⟨s, ramp (s + 1) y.f1.length⟩ : S87) (Kd.R_mono (Kd.R_tight rfl NO.out) (fun q hq => hR1 q hq.symm))) (fun _ h => h)
          rw [Int.toNat_natCast, EMM.out _ rfl] at H3
          exact ⟨H3⟩
        · exact ⟨(Kept.setCell HK.out (.inl PG.out) _).then_ NK.out (fun k hk => .inl (OI.out k hk).1)⟩
    · have e : kk = l0.length := by omega
      obtain ⟨xs, hxs⟩ : ∃ xs, xs = mkR (l0.take kk) a1 ++ l0.drop kk := ⟨_, rfl⟩
      have hfin : xs = mkR l0 a1 := by rw [hxs, e, List.take_of_length_le (Nat.le_refl _), List.drop_of_length_le (Nat.le_refl _), List.append_nil]
      have hsum : szR (l0.take kk) = szR l0 := by rw [e, List.take_of_length_le (Nat.le_refl _)]
      have hln : xs.length = l0.length := by rw [hfin, mkR_len]
      rw [← hxs] at HO
      obtain ⟨A, c, eu⟩ := Kd.R_slice (Kd.S_R HO.out)
      subst eu
      have hd : decide (kk < xs.length) = false := decide_eq_false (by omega)
      have F := Aside0.mk hfin
      have SU := Aside0.mk hsum
      clear hfin hxs hlt e hln hsum
      go_wp2
      go_ret
      refine ⟨by rw [← SU.out]; rfl, by rw [← F.out]; exact HO.out, HB.out, HK.out⟩
set_option maxHeartbeats 4000000 in
set_option maxRecDepth 100000 in
theorem markGrammar_calls (P0_ : Nat → Prop) (a0 a1 : Int) (u : Value) (l0 : List S87) (k : Int) (w0 w : World) (hB : Below w0.heap.size w0 w) (ho0 : Kd.S k87 87 w w0.heap.size P0_ u l0)
    (ha : 0 ≤ k) (hs : k + szR l0 ≤ 1152921504606846976) :
    Calls Try.prog 20 #[.agg #[.int .i64 a0, .int .i64 a1, u], .int .i64 k] w fun e w' => e = .returned (.int .i64 (k + szR l0)) ∧ Kd.S k87 87 w' w0.heap.size P0_ u (mkR l0 k) ∧ Below w0.heap.size w0 w' ∧ Kept w w' P0_ := by
  obtain ⟨A, c, eu⟩ := Kd.R_slice (Kd.S_R ho0)
  subst eu
  have hu := Try.underlying28
  have HO := Aside0.mk ho0
  have HB := Aside0.mk hB
  have HS := Aside0.mk hs
  have HA := Aside0.mk ha
  clear ho0 hB hs ha
  go_enter Try.func20, Try.ntmps20
  go_wp2_with (go_at_call 58; refine (markRuleS_calls P0_ _ l0 k w0 _ (by repeat (first | exact HB.out | apply below_alloc)) (by repeat (first | exact HO.out | apply Kd.S_alloc)) HA.out HS.out).mono ?_; rintro e w' ⟨rfl, ho, hb, hk⟩; have NB := Aside0.mk hb; have NO := Aside0.mk ho; have NK := Aside0.mk hk; clear ho hb hk)
  go_ret
  exact ⟨rfl, NO.out, NB.out, (Kept.alloc (Kept.refl _ _) _).then_ NK.out (fun q hq => .inl hq)⟩
end Go.Proofs.Ytekoclhnfhbmeaa.P
namespace Go.Proofs.Ytekoclhnfhbmeaa.P
open Go.RowKit Go.Proofs.YtekoclhnfhbmeaaW.PrintWords Go.Proofs.YtekoclhnfhbmeaaW.PrintLast Go.Proofs.YtekoclhnfhbmeaaW.PrintMore
attribute [local go_sem] max2_int min2_int max_two min_two max_three min_three max_four min_four
set_option linter.unusedVariables false
set_option linter.unusedSimpArgs false
def laws_heldIntSS.l0 : Nat → List (List Int) → Int → Int → Option (Int)
  | 0, _, _, _ => none
  | k + 1, x0, x1, x5 => if x5 < (x0.length : Int) then (if 0 ≤ x5 then ((laws_heldIntS.f k (rd_L1 x0 x5) x1).bind fun t102 => (if t102 < 0 then (some (-1)) else (laws_heldIntSS.l0 k x0 t102 (wrap64 (x5 + 1))))) else (none)) else (some x1)
def laws_heldIntSS.f (k : Nat) (l0 : List (List Int)) (a1 : Int) : Option (Int) := laws_heldIntSS.l0 k l0 a1 0
set_option maxHeartbeats 8000000 in
set_option maxRecDepth 100000 in
theorem laws_heldIntSS.calls (k : Nat) (A0 : Option Addr) (c0 : Nat) (l0 : List (List Int)) (a1 : Int) (r : Int) (w : World) (hr0 : Kd.C (Kd.slice 3 (Kd.int .i64)) w A0 l0.length l0) (hc0 : l0.length ≤ c0) (h : laws_heldIntSS.f k l0 a1 = some r) :
    Calls Try.prog 37 #[.slice A0 l0.length c0, .int .i64 a1] w fun e w' => e = .returned (.int .i64 r) ∧ Drawn0 w w' := by
  have HR0 := Aside0.mk hr0
  have HC0 := Aside0.mk hc0
  clear hr0 hc0
  have H : (laws_heldIntSS.l0 k l0 a1 0) = some r := h
  clear h
  have H' := Aside0.mk H
  clear H
  go_enter Try.func37, Try.ntmps37
  go_wp2
  go_loopg [1, 5] k (fun kq v1 v5 w' => ∃ (x1_1 : Int) (x5_1 : Int), v1 = .int .i64 x1_1 ∧ v5 = .int .i64 x5_1 ∧ Aside0 (laws_heldIntSS.l0 kq l0 x1_1 x5_1 = some r) ∧ Aside0 (kq ≤ k) ∧ Drawn0 w w')
  case atStart => exact ⟨(a1), (0), (by first | rfl | (simp; done) | (simp [*]; done)), (by first | rfl | (simp; done) | (simp [*]; done)), H', ⟨Nat.le_refl _⟩, by repeat (first | exact Drawn0.refl _ | apply Drawn0.step)⟩
  case round =>
    clear H'
    try clear p2
    obtain ⟨x1_1, x5_1, rfl, rfl, HA, HK1, ⟨m1, rfl⟩⟩ := hrel
    cases gk with
    | zero => exact absurd HA.out (by simp [laws_heldIntSS.l0])
    | succ k1 =>
      have H := HA.out
      clear HA
      simp only [laws_heldIntSS.l0] at H
      by_cases c3 : x5_1 < (l0.length : Int)
      · rw [if_pos c3] at H
        have c3b0 : decide (x5_1 < (l0.length : Int)) = true := decide_eq_true c3
        clear c3
        by_cases c4 : 0 ≤ x5_1
        · rw [if_pos c4] at H
          have c4b0 : decide (0 ≤ x5_1) = true := decide_eq_true c4
          clear c4
          replace H := Option.bind_eq_some_iff.mp H
          obtain ⟨t102, A50, H⟩ := H
          replace H : (if t102 < 0 then (some (-1)) else (laws_heldIntSS.l0 k1 l0 t102 (wrap64 (x5_1 + 1)))) = some r := H
          have A5 := Aside0.mk A50
          clear A50
          by_cases c6 : t102 < 0
          · rw [if_pos c6] at H
            have c6b0 : decide (t102 < 0) = true := decide_eq_true c6
            clear c6
            obtain rfl := Option.some.inj H
            have p101 : 0 ≤ (x5_1 : Int) := of_decide_eq_true (by first | (with_reducible assumption) | assumption)
            have q101 : x5_1 < (l0.length : Int) := of_decide_eq_true (by first | (with_reducible assumption) | assumption)
            obtain ⟨ad101, A101_0, c101_0, e101, hx101_0, hl101_0, hi101_0⟩ := at_L1 HR0.out x5_1 p101 q101
            cases e101
            have HR101_0 := Aside0.mk hi101_0
            have HC101_0 := Aside0.mk hl101_0
            clear hi101_0 hl101_0
            replace p101 := eq_true p101
            replace q101 := eq_true q101
            go_wp2_with (first | ((with_reducible refine gate_callee (f := 42) rfl ?_); refine goesL_ (some 17) rfl rfl Try.func42 (by kernel_rfl) rfl #[.slice A101_0 (rd_L1 l0 x5_1).length c101_0, .int .i64 x1_1] rfl (by (try simp only [List.map_toArray, List.map_cons, List.map_nil]); first | done | rfl | (simp only [List.length_drop, List.length_take]; rfl)) ?_; (with_reducible refine (laws_heldIntS.calls k1 _ _ (rd_L1 l0 x5_1) x1_1 t102 _ ?side1 ?side2 A5.out).mono ?_); (case side1 => repeat (first | exact HR101_0.out | (with_reducible refine Kd.C_alloc ?_ _) | (with_reducible refine Kd.C_drewN ?_ _) | (with_reducible refine Kd.C_drew ?_))); (case side2 => exact HC101_0.out); rintro e w' ⟨rfl, ⟨nd, rfl⟩⟩; refine ⟨_, rfl, ?_⟩))
            go_ret
            exact ⟨by first | rfl | (simp; done) | (simp [*]; done), by repeat (first | exact Drawn0.refl _ | apply Drawn0.step)⟩
          · rw [if_neg c6] at H
            have c6b0 : decide (t102 < 0) = false := decide_eq_false c6
            clear c6
            have H' := Aside0.mk H
            clear H
            have p101 : 0 ≤ (x5_1 : Int) := of_decide_eq_true (by first | (with_reducible assumption) | assumption)
            have q101 : x5_1 < (l0.length : Int) := of_decide_eq_true (by first | (with_reducible assumption) | assumption)
            obtain ⟨ad101, A101_0, c101_0, e101, hx101_0, hl101_0, hi101_0⟩ := at_L1 HR0.out x5_1 p101 q101
            cases e101
            have HR101_0 := Aside0.mk hi101_0
            have HC101_0 := Aside0.mk hl101_0
            clear hi101_0 hl101_0
            replace p101 := eq_true p101
            replace q101 := eq_true q101
            go_wp2_with (first | ((with_reducible refine gate_callee (f := 42) rfl ?_); refine goesL_ (some 17) rfl rfl Try.func42 (by kernel_rfl) rfl #[.slice A101_0 (rd_L1 l0 x5_1).length c101_0, .int .i64 x1_1] rfl (by (try simp only [List.map_toArray, List.map_cons, List.map_nil]); first | done | rfl | (simp only [List.length_drop, List.length_take]; rfl)) ?_; (with_reducible refine (laws_heldIntS.calls k1 _ _ (rd_L1 l0 x5_1) x1_1 t102 _ ?side1 ?side2 A5.out).mono ?_); (case side1 => repeat (first | exact HR101_0.out | (with_reducible refine Kd.C_alloc ?_ _) | (with_reducible refine Kd.C_drewN ?_ _) | (with_reducible refine Kd.C_drew ?_))); (case side2 => exact HC101_0.out); rintro e w' ⟨rfl, ⟨nd, rfl⟩⟩; refine ⟨_, rfl, ?_⟩))
            go_roundg k1
            case measure => have := HK1.out; omega
            case rel => exact ⟨(t102), (wrap64 (x5_1 + 1)), (by first | rfl | (simp; done) | (simp [*]; done)), (by first | rfl | (simp; done) | (simp [*]; done)), H', ⟨by have := HK1.out; omega⟩, by repeat (first | exact Drawn0.refl _ | apply Drawn0.step)⟩
        · rw [if_neg c4] at H
          exact absurd H (by simp)
      · rw [if_neg c3] at H
        have c3b0 : decide (x5_1 < (l0.length : Int)) = false := decide_eq_false c3
        clear c3
        obtain rfl := Option.some.inj H
        go_wp2
        go_ret
        exact ⟨by first | rfl | (simp; done) | (simp [*]; done), by repeat (first | exact Drawn0.refl _ | apply Drawn0.step)⟩
end Go.Proofs.Ytekoclhnfhbmeaa.P
namespace Go.Proofs.Ytekoclhnfhbmeaa.P
open Go.RowKit Go.Proofs.YtekoclhnfhbmeaaW.PrintWords Go.Proofs.YtekoclhnfhbmeaaW.PrintLast Go.Proofs.YtekoclhnfhbmeaaW.PrintMore
set_option linter.unusedVariables false
set_option linter.unusedSimpArgs false
def szRows : List (List Int) → Nat
  | [] => 0
  | r :: l => r.length + szRows l
def mkRows : List (List Int) → Int → List (List Int)
  | [], _ => []
  | r :: l, a => ramp a r.length :: mkRows l (a + r.length)
theorem mkRows_len (l : List (List Int)) : ∀ a, (mkRows l a).length = l.length := by
  induction l with
  | nil => intro a; rfl
  | cons r l ih => intro a; simp [mkRows, ih]
theorem szRows_append (l m : List (List Int)) : szRows (l ++ m) = szRows l + szRows m := by
  induction l with
  | nil => simp [szRows]
  | cons r l ih => simp only [List.cons_append, szRows, ih]; omega
theorem mkRows_append (l m : List (List Int)) : ∀ a, mkRows (l ++ m) a = mkRows l a ++ mkRows m (a + szRows l) := by
  induction l with
  | nil => intro a; simp [szRows, mkRows]
  | cons r l ih => intro a; simp only [List.cons_append, mkRows, szRows, ih]; congr 3; omega
theorem szRows_take (l : List (List Int)) (i : Nat) : szRows (l.take i) ≤ szRows l := by
  have := szRows_append (l.take i) (l.drop i)
  rw [List.take_append_drop] at this
  omega
theorem szRows_small (l : List (List Int)) (B : Nat) (hs : ∀ r, r ∈ l → r.length ≤ B) : szRows l ≤ l.length * B := by
  induction l with
  | nil => simp [szRows]
  | cons r l ih =>
    have h0 := hs r (by simp)
    have h1 := ih (fun r hr => hs r (by simp [hr]))
    simp only [szRows, List.length_cons, Nat.add_mul]
    omega
theorem mkRows_get (l : List (List Int)) (a : Int) (i : Nat) (hi : i < l.length) : rd_L1 (mkRows l a) (i : Int) = ramp (a + szRows (l.take i)) (rd_L1 l i).length := by
  have e : l = l.take i ++ l.getD i [] :: l.drop (i + 1) := by rw [← getD_drop l i _ hi, List.take_append_drop]
  have e2 : mkRows l a = mkRows (l.take i) a ++ mkRows (l.getD i [] :: l.drop (i + 1)) (a + szRows (l.take i)) := by rw [← mkRows_append, ← e]
  unfold rd_L1
  rw [e2, Int.toNat_natCast, List.getD_eq_getElem?_getD, List.getElem?_append_right (by rw [mkRows_len, List.length_take]; omega), mkRows_len, List.length_take, Nat.min_eq_left (by omega), Nat.sub_self]
  rfl
theorem heldIntSS_loop (l : List (List Int)) (hlen : l.length ≤ 1152921504606846976) (a : Int) (ha : 0 ≤ a) (hs : a + szRows l ≤ 1152921504606846976) (d : Nat) : ∀ (i : Nat), i ≤ l.length → l.length - i = d →
    Ev (fun k => laws_heldIntSS.l0 k (mkRows l a) (a + szRows (l.take i)) i) (a + szRows l) := by
  induction d with
  | zero =>
    intro i h1 hd
    obtain rfl : i = l.length := by omega
    refine ⟨1, fun k hk => ?_⟩
    dsimp only
    obtain ⟨k, rfl⟩ : ∃ m, k = m + 1 := ⟨k - 1, by omega⟩
    simp only [laws_heldIntSS.l0]
    rw [if_neg (by rw [mkRows_len]; omega), List.take_of_length_le (Nat.le_refl _)]
  | succ d ih =>
    intro i h1 hd
    obtain ⟨K, h⟩ := ih (i + 1) (by omega) (by omega)
    dsimp only at h
    have hb1 := szRows_take l i
    have hb2 := szRows_take l (i + 1)
    have esz : szRows (l.take (i + 1)) = szRows (l.take i) + (rd_L1 l i).length := by
      rw [take_getD l i [] (by omega), szRows_append]
      unfold rd_L1
      simp [szRows]
    refine ⟨K + (rd_L1 l i).length + 2, fun k hk => ?_⟩
    dsimp only
    obtain ⟨k, rfl⟩ : ∃ m, k = m + 1 := ⟨k - 1, by omega⟩
    simp only [laws_heldIntSS.l0]
    rw [if_pos (by rw [mkRows_len]; omega), if_pos (by omega), mkRows_get l a i (by omega), heldIntS_eq _ (by omega) _ (by omega) (by omega) k (by omega)]
    simp only [Option.bind_some]
    rw [if_neg (by omega), show wrap64 ((i : Int) + 1) = ((i + 1 : Nat) : Int) by unfold wrap64; omega, show a + (szRows (l.take i) : Int) + ((rd_L1 l i).length : Int) = a + szRows (l.take (i + 1)) by rw [esz]; omega]
    exact h k (by omega)
theorem heldIntSS_ev (l : List (List Int)) (hlen : l.length ≤ 1152921504606846976) (a : Int) (ha : 0 ≤ a) (hs : a + szRows l ≤ 1152921504606846976) : Ev (fun k => laws_heldIntSS.f k (mkRows l a) a) (a + szRows l) := by
  obtain ⟨K, h⟩ := heldIntSS_loop l hlen a ha hs l.length 0 (by omega) (by omega)
  dsimp only at h
  rw [List.take_zero] at h
  refine ⟨K, fun k hk => ?_⟩
  dsimp only
  have h2 := h k hk
  simp only [szRows, Int.natCast_zero, Int.add_zero] at h2
  unfold laws_heldIntSS.f
  exact h2
theorem heldIntSS_calls (A : Option Addr) (c : Nat) (l : List (List Int)) (a : Int) (w : World) (hr : Kd.C (Kd.slice 3 (Kd.int .i64)) w A (mkRows l a).length (mkRows l a)) (hc : l.length ≤ c) (ha : 0 ≤ a) (hs : a + szRows l ≤ 1152921504606846976) (hlen : l.length ≤ 1152921504606846976) :
    Calls Try.prog 37 #[.slice A l.length c, .int .i64 a] w fun e w' => e = .returned (.int .i64 (a + szRows l)) ∧ Below w.heap.size w w' := by
  obtain ⟨k, hk⟩ := (heldIntSS_ev l hlen a ha hs).rounds
  have H := laws_heldIntSS.calls k A c (mkRows l a) a (a + szRows l) w hr (by rw [mkRows_len]; exact hc) hk
  rw [mkRows_len] at H
  refine H.mono ?_
  rintro e w' ⟨he, n, rfl⟩
  exact ⟨he, pw_below_drewN (Below.refl _ _) n⟩
set_option maxHeartbeats 4000000 in
set_option maxRecDepth 100000 in
theorem markIntSS_calls (P0_ : Nat → Prop) (u : Value) (l0 : List (List Int)) (a1 : Int) (w0 w : World) (hB : Below w0.heap.size w0 w) (ho0 : Kd.S (Kd.slice 3 (Kd.int .i64)) 37 w w0.heap.size P0_ u l0)
    (ha : 0 ≤ a1) (hs : a1 + szRows l0 ≤ 1152921504606846976) (hlen : l0.length ≤ 1152921504606846976) :
    Calls Try.prog 36 #[u, .int .i64 a1] w fun e w' => e = .returned (.int .i64 (a1 + szRows l0)) ∧ Kd.S (Kd.slice 3 (Kd.int .i64)) 37 w' w0.heap.size P0_ u (mkRows l0 a1) ∧ Below w0.heap.size w0 w' ∧ Kept w w' P0_ := by
  have HO := Aside0.mk ho0
  have HB := Aside0.mk hB
  have HW := Aside0.mk hB.size
  have HS := Aside0.mk hs
  have HLEN := Aside0.mk hlen
  clear ho0 hB hs
  go_enter Try.func36, Try.ntmps36
  go_wp2
  go_loopg [1, 5] l0.length (fun gg s1 s5 wr => ∃ kk : Nat, kk ≤ l0.length ∧ l0.length - kk ≤ gg ∧ s5 = .int .i64 kk ∧ s1 = .int .i64 (a1 + szRows (l0.take kk)) ∧ Aside0 (Kd.S (Kd.slice 3 (Kd.int .i64)) 37 wr w0.heap.size P0_ u (mkRows (l0.take kk) a1 ++ l0.drop kk)) ∧ Aside0 (Below w0.heap.size w0 wr) ∧ Aside0 (Kept w wr P0_))
  case atStart => exact ⟨0, Nat.zero_le _, by omega, rfl, by simp [szRows], ⟨by simpa [mkRows] using HO.out⟩, HB, ⟨Kept.refl _ _⟩⟩
  case round =>
    clear HO HB
    obtain ⟨kk, hkk, hg, rfl, rfl, HO, HB, HK⟩ := hrel
    have hb1 := szRows_take l0 kk
    by_cases hlt : kk < l0.length
    · obtain ⟨y, hy⟩ : ∃ y, y = l0.getD kk [] := ⟨_, rfl⟩
      have ed := getD_drop l0 kk [] hlt
      have et := take_getD l0 kk [] hlt
      rw [← hy] at ed et
      have esz : szRows (l0.take (kk + 1)) = szRows (l0.take kk) + y.length := by rw [et, szRows_append]; simp [szRows]
      have hb2 := szRows_take l0 (kk + 1)
      have emk : ∀ z, z = ramp (a1 + szRows (l0.take kk)) y.length → (mkRows (l0.take kk) a1 ++ l0.drop kk).set kk z = mkRows (l0.take (kk + 1)) a1 ++ l0.drop (kk + 1) := by
        rintro z rfl
        rw [ed, set_mid _ _ _ _ _ (by rw [mkRows_len, List.length_take]; omega), et, mkRows_append]
        simp [mkRows]
      have elen : (mkRows (l0.take kk) a1 ++ l0.drop kk).length = l0.length := by rw [List.length_append, mkRows_len, List.length_take, List.length_drop]; omega
      have eget : (mkRows (l0.take kk) a1 ++ l0.drop kk).getD kk [] = y := by
        rw [ed, List.getD_eq_getElem?_getD, List.getElem?_append_right (by rw [mkRows_len, List.length_take]; omega), mkRows_len, List.length_take, Nat.min_eq_left hkk, Nat.sub_self]; rfl
      have EM := Aside0.mk emk
      have ES := Aside0.mk esz
      have LN := Aside0.mk elen
      clear emk esz ed et hy
      obtain ⟨xs, hxs⟩ : ∃ xs, xs = mkRows (l0.take kk) a1 ++ l0.drop kk := ⟨_, rfl⟩
      rw [← hxs] at HO EM LN eget
      obtain ⟨go, co, eo, gb, gl, cl, HG⟩ := Kd.S_form HO.out (by rw [LN.out]; omega)
      subst eo
      obtain ⟨oki, c, hcl, hM, hcc, hfr, hoki, hH⟩ := Kd.S_elem HO.out [] (kk : Int) (by omega) (by rw [LN.out]; omega)
      rw [Int.toNat_natCast, eget] at hM
      obtain ⟨v1, rfl, hR⟩ := hM
      have hx0 : wr.cell? ⟨go, kk, none⟩ = some v1 := by have := hcc 0 _ rfl; simpa [Kd.slice] using this
      obtain ⟨s, hs⟩ : ∃ s : Int, s = a1 + szRows (l0.take kk) := ⟨_, rfl⟩
      rw [← hs] at EM
      rw [← hs]
      have hs0 : 0 ≤ s := by omega
      have hs1 : s ≤ 1152921504606846976 := by have := HS.out; omega
      have hyl : s + y.length ≤ 1152921504606846976 := by have := HS.out; have := ES.out; omega
      have hsz : xs.length = l0.length := LN.out
      have hd : decide (kk < xs.length) = true := decide_eq_true (by omega)
      have hlt2 : kk < xs.length := by omega
      have hmx : xs.length ≤ 9223372036854775807 := by have := HLEN.out; omega
      have GB := Aside0.mk gb
      have HH := Aside0.mk hH
      have HR := Aside0.mk hR
      have OI := Aside0.mk hoki
      have L := Aside0.mk hlt
      have SV := Aside0.mk hs
      have EMM := EM
      clear hcl hcc hfr hH hR hoki gb gl HG eget hs hlt hxs EM hsz
      go_wp2_with (go_at_call 35; refine (markIntS_calls oki v1 y s w0 _ (by repeat (first | exact HB.out | apply below_drew | apply pw_below_drewN)) (by repeat (first | exact HR.out | apply Kd.R_drew | apply Kd.R_drewN)) hs0 hyl).mono ?_; rintro e w' ⟨rfl, ho, hb, hk⟩; have NB := Aside0.mk hb; have NO := Aside0.mk ho; have NK := Aside0.mk hk; clear ho hb hk)
      go_roundg (l0.length - (kk + 1))
      case measure => have := L.out; omega
      case rel =>
        refine ⟨kk + 1, by have := L.out; omega, by omega, by go_num, ?_, ?_, NB, ?_⟩
        · rw [ES.out]
          have := SV.out
          congr 1
          omega
        · have H2 := Kd.H_kept HH.out NK.out (fun k _ hno hs => hno hs)
          have hR1 := HR.out.1
          have H3 := Kd.H_back H2 (x' := ramp s y.length) ⟨v1, rfl, (Kd.R_mono (Kd.R_tight rfl NO.out) (fun q hq => hR1 q hq.symm))⟩ (fun _ h => h)
          rw [Int.toNat_natCast, EMM.out _ rfl] at H3
          exact ⟨H3⟩
        · exact ⟨(HK.out).then_ NK.out (fun k hk => .inl (OI.out k hk).1)⟩
    · have e : kk = l0.length := by omega
      obtain ⟨xs, hxs⟩ : ∃ xs, xs = mkRows (l0.take kk) a1 ++ l0.drop kk := ⟨_, rfl⟩
      have hfin : xs = mkRows l0 a1 := by rw [hxs, e, List.take_of_length_le (Nat.le_refl _), List.drop_of_length_le (Nat.le_refl _), List.append_nil]
      have hsum : szRows (l0.take kk) = szRows l0 := by rw [e, List.take_of_length_le (Nat.le_refl _)]
      have hln : xs.length = l0.length := by rw [hfin, mkRows_len]
      rw [← hxs] at HO
      obtain ⟨A, c, eu⟩ := Kd.R_slice (Kd.S_R HO.out)
      subst eu
      have hd : decide (kk < xs.length) = false := decide_eq_false (by omega)
      have F := Aside0.mk hfin
      have SU := Aside0.mk hsum
      clear hfin hxs hlt e hln hsum
      go_wp2
      go_ret
      refine ⟨by rw [← SU.out]; rfl, by rw [← F.out]; exact HO.out, HB.out, HK.out⟩
end Go.Proofs.Ytekoclhnfhbmeaa.P
namespace Go.Proofs.Ytekoclhnfhbmeaa.P
open Go.RowKit Go.Proofs.YtekoclhnfhbmeaaW.PrintWords Go.Proofs.YtekoclhnfhbmeaaW.PrintLast Go.Proofs.YtekoclhnfhbmeaaW.PrintMore
attribute [local go_sem] max2_int min2_int max_two min_two max_three min_three max_four min_four
set_option linter.unusedVariables false
set_option linter.unusedSimpArgs false
def laws_eqIntSS.l0 : Nat → List (List Int) → List (List Int) → Int → Option (Bool)
  | 0, _, _, _ => none
  | k + 1, x0, x1, x5 => if x5 < (x0.length : Int) then (if 0 ≤ x5 then (if x5 < (x1.length : Int) then ((laws_eqIntS.f k (rd_L1 x0 x5) (rd_L1 x1 x5)).bind fun t103 => (if t103 = true then (laws_eqIntSS.l0 k x0 x1 (wrap64 (x5 + 1))) else (some false))) else (none)) else (none)) else (some true)
def laws_eqIntSS.f (k : Nat) (l0 : List (List Int)) (l1 : List (List Int)) : Option (Bool) := if (l0.length : Int) = (l1.length : Int) then (laws_eqIntSS.l0 k l0 l1 0) else (some false)
set_option maxHeartbeats 8000000 in
set_option maxRecDepth 100000 in
theorem laws_eqIntSS.calls (k : Nat) (A0 : Option Addr) (c0 : Nat) (l0 : List (List Int)) (A1 : Option Addr) (c1 : Nat) (l1 : List (List Int)) (r : Bool) (w : World) (hr0 : Kd.C (Kd.slice 3 (Kd.int .i64)) w A0 l0.length l0) (hc0 : l0.length ≤ c0) (hr1 : Kd.C (Kd.slice 3 (Kd.int .i64)) w A1 l1.length l1) (hc1 : l1.length ≤ c1) (h : laws_eqIntSS.f k l0 l1 = some r) :
    Calls Try.prog 34 #[.slice A0 l0.length c0, .slice A1 l1.length c1] w fun e w' => e = .returned (.bool r) ∧ Drawn0 w w' := by
  have HR0 := Aside0.mk hr0
  have HC0 := Aside0.mk hc0
  clear hr0 hc0
  have HR1 := Aside0.mk hr1
  have HC1 := Aside0.mk hc1
  clear hr1 hc1
  have H : (if (l0.length : Int) = (l1.length : Int) then (laws_eqIntSS.l0 k l0 l1 0) else (some false)) = some r := h
  clear h
  by_cases c3 : (l0.length : Int) = (l1.length : Int)
  · rw [if_pos c3] at H
    have c3b0 : ((l0.length : Int) == (l1.length : Int)) = true := beq_iff_eq.mpr c3
    have c3b1 : ((l0.length : Int) != (l1.length : Int)) = false := bne_eq_false_iff_eq.mpr c3
    have c3b2 : (l0.length == l1.length) = true := by first | simpa using c3 | (simp at c3 ⊢; omega)
    clear c3
    have H' := Aside0.mk H
    clear H
    go_enter Try.func34, Try.ntmps34
    go_wp2
    repeat (go_quiet (fail); try go_wp2)
    go_loopg [5] k (fun kq v5 w' => ∃ (x5_1 : Int), v5 = .int .i64 x5_1 ∧ Aside0 (laws_eqIntSS.l0 kq l0 l1 x5_1 = some r) ∧ Aside0 (kq ≤ k) ∧ Drawn0 w w')
    case atStart => exact ⟨(0), (by first | rfl | (simp; done) | (simp [*]; done)), H', ⟨Nat.le_refl _⟩, by repeat (first | exact Drawn0.refl _ | apply Drawn0.step)⟩
    case round =>
      clear H'
      try clear c1
      try clear p2
      try clear c3
      try clear c3b0
      try clear c3b1
      try clear c3b2
      obtain ⟨x5_1, rfl, HA, HK1, ⟨m1, rfl⟩⟩ := hrel
      cases gk with
      | zero => exact absurd HA.out (by simp [laws_eqIntSS.l0])
      | succ k1 =>
        have H := HA.out
        clear HA
        simp only [laws_eqIntSS.l0] at H
        by_cases c4 : x5_1 < (l0.length : Int)
        · rw [if_pos c4] at H
          have c4b0 : decide (x5_1 < (l0.length : Int)) = true := decide_eq_true c4
          clear c4
          by_cases c5 : 0 ≤ x5_1
          · rw [if_pos c5] at H
            have c5b0 : decide (0 ≤ x5_1) = true := decide_eq_true c5
            clear c5
            by_cases c6 : x5_1 < (l1.length : Int)
            · rw [if_pos c6] at H
              have c6b0 : decide (x5_1 < (l1.length : Int)) = true := decide_eq_true c6
              clear c6
              replace H := Option.bind_eq_some_iff.mp H
              obtain ⟨t103, A70, H⟩ := H
              replace H : (if t103 = true then (laws_eqIntSS.l0 k1 l0 l1 (wrap64 (x5_1 + 1))) else (some false)) = some r := H
              have A7 := Aside0.mk A70
              clear A70
              by_cases c8 : t103 = true
              · subst c8
                have H1 : (laws_eqIntSS.l0 k1 l0 l1 (wrap64 (x5_1 + 1))) = some r := by rw [if_pos rfl] at H; exact H
                clear H
                have H := H1
                clear H1
                have H' := Aside0.mk H
                clear H
                have p101 : 0 ≤ (x5_1 : Int) := of_decide_eq_true (by first | (with_reducible assumption) | assumption)
                have q101 : x5_1 < (l0.length : Int) := of_decide_eq_true (by first | (with_reducible assumption) | assumption)
                obtain ⟨ad101, A101_0, c101_0, e101, hx101_0, hl101_0, hi101_0⟩ := at_L1 HR0.out x5_1 p101 q101
                cases e101
                have HR101_0 := Aside0.mk hi101_0
                have HC101_0 := Aside0.mk hl101_0
                clear hi101_0 hl101_0
                replace p101 := eq_true p101
                replace q101 := eq_true q101
                have p102 : 0 ≤ (x5_1 : Int) := of_decide_eq_true (by first | (with_reducible assumption) | assumption)
                have q102 : x5_1 < (l1.length : Int) := of_decide_eq_true (by first | (with_reducible assumption) | assumption)
                obtain ⟨ad102, A102_0, c102_0, e102, hx102_0, hl102_0, hi102_0⟩ := at_L1 HR1.out x5_1 p102 q102
                cases e102
                have HR102_0 := Aside0.mk hi102_0
                have HC102_0 := Aside0.mk hl102_0
                clear hi102_0 hl102_0
                replace p102 := eq_true p102
                replace q102 := eq_true q102
                go_wp2_with (first | (go_at_call 27; (with_reducible refine (laws_eqIntS.calls k1 _ _ (rd_L1 l0 x5_1) _ _ (rd_L1 l1 x5_1) true _ ?side1 ?side2 ?side3 ?side4 A7.out).mono ?_); (case side1 => repeat (first | exact HR101_0.out | (with_reducible refine Kd.C_alloc ?_ _) | (with_reducible refine Kd.C_drewN ?_ _) | (with_reducible refine Kd.C_drew ?_))); (case side2 => exact HC101_0.out); (case side3 => repeat (first | exact HR102_0.out | (with_reducible refine Kd.C_alloc ?_ _) | (with_reducible refine Kd.C_drewN ?_ _) | (with_reducible refine Kd.C_drew ?_))); (case side4 => exact HC102_0.out); rintro e w' ⟨rfl, ⟨nd, rfl⟩⟩; (try first | exact ⟨rfl, _, World.drewN_drewN _ _ _⟩ | exact ⟨rfl, _, Eq.trans (World.drewN_drewN _ _ _) (congrArg (World.drewN _) (Nat.add_assoc _ _ _))⟩)))
                repeat (go_quiet (first | (go_at_call 27; (with_reducible refine (laws_eqIntS.calls k1 _ _ (rd_L1 l0 x5_1) _ _ (rd_L1 l1 x5_1) true _ ?side1 ?side2 ?side3 ?side4 A7.out).mono ?_); (case side1 => repeat (first | exact HR101_0.out | (with_reducible refine Kd.C_alloc ?_ _) | (with_reducible refine Kd.C_drewN ?_ _) | (with_reducible refine Kd.C_drew ?_))); (case side2 => exact HC101_0.out); (case side3 => repeat (first | exact HR102_0.out | (with_reducible refine Kd.C_alloc ?_ _) | (with_reducible refine Kd.C_drewN ?_ _) | (with_reducible refine Kd.C_drew ?_))); (case side4 => exact HC102_0.out); rintro e w' ⟨rfl, ⟨nd, rfl⟩⟩; (try first | exact ⟨rfl, _, World.drewN_drewN _ _ _⟩ | exact ⟨rfl, _, Eq.trans (World.drewN_drewN _ _ _) (congrArg (World.drewN _) (Nat.add_assoc _ _ _))⟩))); try go_wp2_with (first | (go_at_call 27; (with_reducible refine (laws_eqIntS.calls k1 _ _ (rd_L1 l0 x5_1) _ _ (rd_L1 l1 x5_1) true _ ?side1 ?side2 ?side3 ?side4 A7.out).mono ?_); (case side1 => repeat (first | exact HR101_0.out | (with_reducible refine Kd.C_alloc ?_ _) | (with_reducible refine Kd.C_drewN ?_ _) | (with_reducible refine Kd.C_drew ?_))); (case side2 => exact HC101_0.out); (case side3 => repeat (first | exact HR102_0.out | (with_reducible refine Kd.C_alloc ?_ _) | (with_reducible refine Kd.C_drewN ?_ _) | (with_reducible refine Kd.C_drew ?_))); (case side4 => exact HC102_0.out); rintro e w' ⟨rfl, ⟨nd, rfl⟩⟩; (try first | exact ⟨rfl, _, World.drewN_drewN _ _ _⟩ | exact ⟨rfl, _, Eq.trans (World.drewN_drewN _ _ _) (congrArg (World.drewN _) (Nat.add_assoc _ _ _))⟩))))
                go_roundg k1
                case measure => have := HK1.out; omega
                case rel => exact ⟨(wrap64 (x5_1 + 1)), (by first | rfl | (simp; done) | (simp [*]; done)), H', ⟨by have := HK1.out; omega⟩, by repeat (first | exact Drawn0.refl _ | apply Drawn0.step)⟩
              · replace c8 := Bool.eq_false_iff.mpr c8
                subst c8
                have H1 : (some false) = some r := by rw [if_neg (show ¬ (false = true) by decide)] at H; exact H
                clear H
                have H := H1
                clear H1
                obtain rfl := Option.some.inj H
                have p101 : 0 ≤ (x5_1 : Int) := of_decide_eq_true (by first | (with_reducible assumption) | assumption)
                have q101 : x5_1 < (l0.length : Int) := of_decide_eq_true (by first | (with_reducible assumption) | assumption)
                obtain ⟨ad101, A101_0, c101_0, e101, hx101_0, hl101_0, hi101_0⟩ := at_L1 HR0.out x5_1 p101 q101
                cases e101
                have HR101_0 := Aside0.mk hi101_0
                have HC101_0 := Aside0.mk hl101_0
                clear hi101_0 hl101_0
                replace p101 := eq_true p101
                replace q101 := eq_true q101
                have p102 : 0 ≤ (x5_1 : Int) := of_decide_eq_true (by first | (with_reducible assumption) | assumption)
                have q102 : x5_1 < (l1.length : Int) := of_decide_eq_true (by first | (with_reducible assumption) | assumption)
                obtain ⟨ad102, A102_0, c102_0, e102, hx102_0, hl102_0, hi102_0⟩ := at_L1 HR1.out x5_1 p102 q102
                cases e102
                have HR102_0 := Aside0.mk hi102_0
                have HC102_0 := Aside0.mk hl102_0
                clear hi102_0 hl102_0
                replace p102 := eq_true p102
                replace q102 := eq_true q102
                go_wp2_with (first | (go_at_call 27; (with_reducible refine (laws_eqIntS.calls k1 _ _ (rd_L1 l0 x5_1) _ _ (rd_L1 l1 x5_1) false _ ?side1 ?side2 ?side3 ?side4 A7.out).mono ?_); (case side1 => repeat (first | exact HR101_0.out | (with_reducible refine Kd.C_alloc ?_ _) | (with_reducible refine Kd.C_drewN ?_ _) | (with_reducible refine Kd.C_drew ?_))); (case side2 => exact HC101_0.out); (case side3 => repeat (first | exact HR102_0.out | (with_reducible refine Kd.C_alloc ?_ _) | (with_reducible refine Kd.C_drewN ?_ _) | (with_reducible refine Kd.C_drew ?_))); (case side4 => exact HC102_0.out); rintro e w' ⟨rfl, ⟨nd, rfl⟩⟩; (try first | exact ⟨rfl, _, World.drewN_drewN _ _ _⟩ | exact ⟨rfl, _, Eq.trans (World.drewN_drewN _ _ _) (congrArg (World.drewN _) (Nat.add_assoc _ _ _))⟩)))
                repeat (go_quiet (first | (go_at_call 27; (with_reducible refine (laws_eqIntS.calls k1 _ _ (rd_L1 l0 x5_1) _ _ (rd_L1 l1 x5_1) false _ ?side1 ?side2 ?side3 ?side4 A7.out).mono ?_); (case side1 => repeat (first | exact HR101_0.out | (with_reducible refine Kd.C_alloc ?_ _) | (with_reducible refine Kd.C_drewN ?_ _) | (with_reducible refine Kd.C_drew ?_))); (case side2 => exact HC101_0.out); (case side3 => repeat (first | exact HR102_0.out | (with_reducible refine Kd.C_alloc ?_ _) | (with_reducible refine Kd.C_drewN ?_ _) | (with_reducible refine Kd.C_drew ?_))); (case side4 => exact HC102_0.out); rintro e w' ⟨rfl, ⟨nd, rfl⟩⟩; (try first | exact ⟨rfl, _, World.drewN_drewN _ _ _⟩ | exact ⟨rfl, _, Eq.trans (World.drewN_drewN _ _ _) (congrArg (World.drewN _) (Nat.add_assoc _ _ _))⟩))); try go_wp2_with (first | (go_at_call 27; (with_reducible refine (laws_eqIntS.calls k1 _ _ (rd_L1 l0 x5_1) _ _ (rd_L1 l1 x5_1) false _ ?side1 ?side2 ?side3 ?side4 A7.out).mono ?_); (case side1 => repeat (first | exact HR101_0.out | (with_reducible refine Kd.C_alloc ?_ _) | (with_reducible refine Kd.C_drewN ?_ _) | (with_reducible refine Kd.C_drew ?_))); (case side2 => exact HC101_0.out); (case side3 => repeat (first | exact HR102_0.out | (with_reducible refine Kd.C_alloc ?_ _) | (with_reducible refine Kd.C_drewN ?_ _) | (with_reducible refine Kd.C_drew ?_))); (case side4 => exact HC102_0.out); rintro e w' ⟨rfl, ⟨nd, rfl⟩⟩; (try first | exact ⟨rfl, _, World.drewN_drewN _ _ _⟩ | exact ⟨rfl, _, Eq.trans (World.drewN_drewN _ _ _) (congrArg (World.drewN _) (Nat.add_assoc _ _ _))⟩))))
                go_ret
                exact ⟨by first | rfl | (simp; done) | (simp [*]; done), by repeat (first | exact Drawn0.refl _ | apply Drawn0.step)⟩
            · rw [if_neg c6] at H
              exact absurd H (by simp)
          · rw [if_neg c5] at H
            exact absurd H (by simp)
        · rw [if_neg c4] at H
          have c4b0 : decide (x5_1 < (l0.length : Int)) = false := decide_eq_false c4
          clear c4
          obtain rfl := Option.some.inj H
          go_wp2
          repeat (go_quiet (fail); try go_wp2)
          go_ret
          exact ⟨by first | rfl | (simp; done) | (simp [*]; done), by repeat (first | exact Drawn0.refl _ | apply Drawn0.step)⟩
  · rw [if_neg c3] at H
    have c3b0 : ((l0.length : Int) == (l1.length : Int)) = false := beq_eq_false_iff_ne.mpr c3
    have c3b1 : ((l0.length : Int) != (l1.length : Int)) = true := bne_iff_ne.mpr c3
    have c3b2 : (l0.length == l1.length) = false := by first | simpa using c3 | (simp at c3 ⊢; omega)
    obtain rfl := Option.some.inj H
    go_enter Try.func34, Try.ntmps34
    go_wp2
    repeat (go_quiet (fail); try go_wp2)
    go_ret
    exact ⟨by first | rfl | (simp; done) | (simp [*]; done), by repeat (first | exact Drawn0.refl _ | apply Drawn0.step)⟩
end Go.Proofs.Ytekoclhnfhbmeaa.P
namespace Go.Proofs.Ytekoclhnfhbmeaa.P
open Go.RowKit Go.Proofs.YtekoclhnfhbmeaaW.PrintWords
set_option linter.unusedVariables false
set_option linter.unusedSimpArgs false
theorem eqIntSS_loop (l : List (List Int)) (hlen : l.length ≤ 1048576) (hs : ∀ i : Nat, i < l.length → (rd_L1 l i).length ≤ 1048576) (d : Nat) : ∀ (i : Nat), i ≤ l.length → l.length - i = d → Ev (fun k => laws_eqIntSS.l0 k l l i) true := by
  induction d with
  | zero =>
    intro i h1 hd
    refine ⟨1, fun k hk => ?_⟩
    dsimp only
    obtain ⟨k, rfl⟩ : ∃ m, k = m + 1 := ⟨k - 1, by omega⟩
    simp only [laws_eqIntSS.l0]
    rw [if_neg (by omega)]
  | succ d ih =>
    intro i h1 hd
    obtain ⟨K, h⟩ := ih (i + 1) (by omega) (by omega)
    dsimp only at h
    have hb := hs i (by omega)
    refine ⟨K + (rd_L1 l i).length + 2, fun k hk => ?_⟩
    dsimp only
    obtain ⟨k, rfl⟩ : ∃ m, k = m + 1 := ⟨k - 1, by omega⟩
    simp only [laws_eqIntSS.l0]
    rw [if_pos (by omega), if_pos (by omega), if_pos (by omega), eqIntS_eq _ (by omega) k (by omega)]
    simp only [Option.bind_some]
    rw [if_pos trivial, show wrap64 ((i : Int) + 1) = ((i + 1 : Nat) : Int) by unfold wrap64; omega]
    exact h k (by omega)
theorem eqIntSS_ev (l : List (List Int)) (hlen : l.length ≤ 1048576) (hs : ∀ i : Nat, i < l.length → (rd_L1 l i).length ≤ 1048576) : Ev (fun k => laws_eqIntSS.f k l l) true := by
  obtain ⟨K, h⟩ := eqIntSS_loop l hlen hs l.length 0 (by omega) (by omega)
  dsimp only at h
  refine ⟨K, fun k hk => ?_⟩
  dsimp only
  unfold laws_eqIntSS.f
  rw [if_pos rfl]
  exact h k hk
end Go.Proofs.Ytekoclhnfhbmeaa.P
namespace Go.Proofs.Ytekoclhnfhbmeaa.P
open Go.RowKit Go.Proofs.YtekoclhnfhbmeaaW.PrintWords Go.Proofs.YtekoclhnfhbmeaaW.PrintLast Go.Proofs.YtekoclhnfhbmeaaW.PrintMore
attribute [local go_sem] max2_int min2_int max_two min_two max_three min_three max_four min_four
set_option linter.unusedVariables false
set_option linter.unusedSimpArgs false
def spec_Derives.f (k : Nat) (a0_0 : Int) (a0_1 : Int) (l0_2 : List (S87)) (a1 : Int) (l2 : List Int) : Option (Bool × Bool) := (spec_GoodWord.f k a0_0 a0_1 l0_2 l2).bind fun t102 => (if t102 = true then ((spec_l1In.f a1 0 (wrap64 (a0_0 - 1))).bind fun t103 => (if t103 = true then ((spec_l4In.f k a0_0 a0_1 l0_2 a1 l2).bind fun t104 => (some (t104, true))) else (some (false, false)))) else (some (false, false)))
end Go.Proofs.Ytekoclhnfhbmeaa.P
namespace Go.Proofs.Ytekoclhnfhbmeaa.P
open Go.RowKit Go.Proofs.YtekoclhnfhbmeaaW.PrintWords Go.Proofs.YtekoclhnfhbmeaaW.PrintLast Go.Proofs.YtekoclhnfhbmeaaW.PrintMore
attribute [local go_sem] max2_int min2_int max_two min_two max_three min_three max_four min_four
set_option linter.unusedVariables false
set_option linter.unusedSimpArgs false
def spec_InLanguage.f (k : Nat) (a0_0 : Int) (a0_1 : Int) (l0_2 : List (S87)) (l1 : List Int) : Option (Bool × Bool) := (spec_GoodWord.f k a0_0 a0_1 l0_2 l1).bind fun t102 => (if t102 = true then ((spec_l4In.f k a0_0 a0_1 l0_2 0 l1).bind fun t103 => (some (t103, true))) else (some (false, false)))
end Go.Proofs.Ytekoclhnfhbmeaa.P
namespace Go.Proofs.Ytekoclhnfhbmeaa.P
open Go.RowKit Go.Proofs.YtekoclhnfhbmeaaW.PrintWords Go.Proofs.YtekoclhnfhbmeaaW.PrintLast Go.Proofs.YtekoclhnfhbmeaaW.PrintMore
attribute [local go_sem] max2_int min2_int max_two min_two max_three min_three max_four min_four
set_option linter.unusedVariables false
set_option linter.unusedSimpArgs false
def spec_l4Form.f (k : Nat) (a0_0 : Int) (a0_1 : Int) (l0_2 : List (S87)) (l1 : List Int) (a2 : Int) : Option (Bool) := if (l1.length : Int) ≤ a2 then ((spec_l1All.f k l1 (wrap64 (-a0_1)) (wrap64 (a0_0 - 1))).bind fun t102 => (some t102)) else (some false)
end Go.Proofs.Ytekoclhnfhbmeaa.P
namespace Go.Proofs.Ytekoclhnfhbmeaa.P
open Go.RowKit Go.Proofs.YtekoclhnfhbmeaaW.PrintWords Go.Proofs.YtekoclhnfhbmeaaW.PrintLast Go.Proofs.YtekoclhnfhbmeaaW.PrintMore
attribute [local go_sem] max2_int min2_int max_two min_two max_three min_three max_four min_four
set_option linter.unusedVariables false
set_option linter.unusedSimpArgs false
def spec_SequenceDerives.j0 : Nat → List Int → List Int → Bool → Int → Int → List (S87) → Option (Bool × Bool)
  | 0, _, _, _, _, _, _ => none
  | k + 1, x1, x2, x17, x102000, x102001, x102002 => if x17 = true then (some (false, false)) else ((spec_l4Table.f k x102000 x102001 x102002 x2).bind fun t104 => ((spec_l4Fits.f k t104 x2 x1 0 (x2.length : Int)).bind fun t107 => (some (t107, true))))
def spec_SequenceDerives.f (k : Nat) (a0_0 : Int) (a0_1 : Int) (l0_2 : List (S87)) (l1 : List Int) (l2 : List Int) : Option (Bool × Bool) := (spec_GoodWord.f k a0_0 a0_1 l0_2 l2).bind fun t102 => (if t102 = true then ((spec_l4Form.f k a0_0 a0_1 l0_2 l1 4).bind fun t103 => (spec_SequenceDerives.j0 k l1 l2 (!t103) a0_0 a0_1 l0_2)) else (spec_SequenceDerives.j0 k l1 l2 true a0_0 a0_1 l0_2))
end Go.Proofs.Ytekoclhnfhbmeaa.P
namespace Go.Proofs.Ytekoclhnfhbmeaa.P
open Go.RowKit Go.Proofs.YtekoclhnfhbmeaaW.PrintWords
set_option linter.unusedVariables false
set_option linter.unusedSimpArgs false
theorem word_len {t : Int} {ws : List Int} (h : wordB t ws = true) : ws.length ≤ 10 := by
  unfold wordB at h
  simp only [Bool.and_eq_true, decide_eq_true_eq] at h
  exact h.1
theorem nat_of_good {n t : Int} {g : List S87} (h : goodG n t g = true) : ∃ m : Nat, n = (m : Int) := ⟨n.toNat, by have := (goodG_nons h).1; omega⟩
end Go.Proofs.Ytekoclhnfhbmeaa.P
namespace Go.Proofs.Ytekoclhnfhbmeaa.P
open Go.RowKit Go.Proofs.YtekoclhnfhbmeaaW.PrintWords Go.Proofs.YtekoclhnfhbmeaaW.PrintLast Go.Proofs.YtekoclhnfhbmeaaW.PrintMore
set_option linter.unusedVariables false
set_option linter.unusedSimpArgs false
def kL (t : List Bool) (f z : Nat) : Nat → Nat → List (List Int) → List (List Int)
  | 0, _, o => o
  | n + 1, k, o => kL t f z n (k + 1) (if tat t k f z = true then o ++ [[(f : Int), (z : Int), (k : Int)]] else o)
def zL (t : List Bool) (nons f : Nat) : Nat → Nat → List (List Int) → List (List Int)
  | 0, _, o => o
  | n + 1, z, o => zL t nons f n (z + 1) (kL t f z nons 0 o)
def fL (t : List Bool) (nons len : Nat) : Nat → Nat → List (List Int) → List (List Int)
  | 0, _, o => o
  | n + 1, f, o => fL t nons len n (f + 1) (zL t nons f (len + 1 - f) f o)
def spansL (t : List Bool) (nons len : Nat) : List (List Int) := fL t nons len (len + 1) 0 []
theorem Sp.grown {w W V : World} {gb gt : Nat} {cb ct : Array Value} {row : Option Nat} (h : Sp w gb gt cb ct W) (hg : W.grownBy V row) (n1 : some gb ≠ row) (n2 : some gt ≠ row) (hB : Below w.heap.size w V) : Sp w gb gt cb ct V := ⟨hB, blk_grown h.hb hg n1, blk_grown h.ht hg n2, h.ne, h.gt_ge⟩
def impl_SpansOf.f (a0_0 a0_1 : Int) (l0_2 : List S87) (lW : List Int) : Option (List (List Int) × Bool) := some (if goodG a0_0 a0_1 l0_2 = true then (if wordB a0_1 lW = true then (spansL (spansF lW l0_2) a0_0.toNat lW.length, true) else ([], false)) else ([], false))
set_option maxHeartbeats 8000000 in
set_option maxRecDepth 100000 in
theorem impl_SpansOf.calls (a0_0 a0_1 : Int) (A0_2 : Option Addr) (c0_2 : Nat) (l0_2 : List S87) (AW : Option Addr) (cW : Nat) (lW : List Int) (r1 : List (List Int)) (r2 : Bool) (w : World) (hr0_2 : Kd.C k87 w A0_2 l0_2.length l0_2) (hc0_2 : l0_2.length ≤ c0_2) (hrW : Kd.C (Kd.int .i64) w AW lW.length lW) (hcW : lW.length ≤ cW) (h : impl_SpansOf.f a0_0 a0_1 l0_2 lW = some (r1, r2)) :
    Calls Try.prog 33 #[.agg #[.int .i64 a0_0, .int .i64 a0_1, .slice A0_2 l0_2.length c0_2], .slice AW lW.length cW] w fun e w' => ∃ v0_ : Value, e = .returned (.tuple #[v0_, .bool r2]) ∧ Kd.S (Kd.slice 3 (Kd.int .i64)) 37 w' w.heap.size (fun _ => True) v0_ r1 ∧ Below w.heap.size w w' := by
  have hu := Try.underlying28
  have CI := fun (W : World) (hW : Below w.heap.size w W) => impl_isGrammar.calls a0_0 a0_1 A0_2 c0_2 l0_2 (goodG a0_0 a0_1 l0_2) W (Kd.C_below hr0_2 hW) hc0_2 rfl
  have CW := fun (W : World) (hW : Below w.heap.size w W) => impl_isWord.calls a0_1 AW cW lW (wordB a0_1 lW) W (Kd.C_below hrW hW) hcW rfl
  have HB := Aside0.mk (Below.refl w.heap.size w)
  have tok0 : True := trivial
  cases hg : goodG a0_0 a0_1 l0_2 with
  | true =>
    rw [hg] at CI
    cases hw : wordB a0_1 lW with
    | true =>
      rw [hw] at CW
      have hf : (spansL (spansF lW l0_2) a0_0.toNat lW.length, true) = (r1, r2) := by unfold impl_SpansOf.f at h; rw [if_pos hg, if_pos hw] at h; exact Option.some.inj h
      obtain ⟨e1, e2⟩ := Prod.mk.inj hf
      have E1 := Aside0.mk e1
      subst e2
      have hn := goodG_nons hg
      obtain ⟨hw10, hwb⟩ := wordB_ok hn.2.1.1 hn.2.1.2 hw
      have hok := fun j hj => goodG_okR6 hg j hj
      have LT := Aside0.mk (spansF_len lW hw10 l0_2 hok)
      have CS := fun (W : World) (hW : Below w.heap.size w W) => spans_calls a0_0 a0_1 A0_2 c0_2 l0_2 AW cW lW W (Kd.C_below hr0_2 hW) hc0_2 (Kd.C_below hrW hW) hcW hok hw10 hwb
      obtain ⟨nons, hno⟩ : ∃ nons : Nat, a0_0 = (nons : Int) := ⟨a0_0.toNat, by have := hn.1; omega⟩
      have hn6 : nons ≤ 6 := by have := hn.1; omega
      have E2 := Aside0.mk (show fL (spansF lW l0_2) nons lW.length (lW.length + 1) 0 [] = r1 by rw [← E1.out, hno, Int.toNat_natCast]; rfl)
      subst hno
      have HN := Aside0.mk hn6
      have HL := Aside0.mk hw10
      clear h hf hr0_2 hrW e1 hg hw hok hwb hn hn6 E1
      have W10 : (lW.length : Int) ≤ 10 := by omega
      clear hw10
      generalize spansF lW l0_2 = t at CS E2 LT
      go_enter Try.func33, Try.ntmps33
      go_upto_region 4 with (first | ((with_reducible refine gate_dst (N := 2) rfl ?_); refine box_event ?hg (N := 2) ?hd (cs := #[.int .i64 nons, .int .i64 a0_1, .slice A0_2 l0_2.length c0_2]) (t := 28) ?hr ?_; (case hd => rfl); (case hg => rfl); (case hr => first | (go_simp; done) | (go_simp; rfl)); intro gb hg_ w1 hbox_ hb_; have GE_gb := Aside0.mk (show w.heap.size ≤ gb by rw [hg_]; exact below_size (by repeat (first | (with_reducible first | exact HB.out | apply below_alloc | apply pw_below_drewN | apply below_drew1) | exact HB.out))); have n0_ := Aside0.mk (below_step (by repeat (first | (with_reducible first | exact HB.out | apply below_alloc | apply pw_below_drewN | apply below_drew1) | exact HB.out)) hb_); clear HB; have HB := n0_; clear n0_; have B_gb := Aside0.mk hbox_; clear hb_ hbox_ hg_; have x_gb_0 : w1.cell? ⟨gb, 0, none⟩ = some (.int .i64 nons) := (blk_cell B_gb.out 0).trans rfl; have x_gb_1 : w1.cell? ⟨gb, 1, none⟩ = some (.int .i64 a0_1) := (blk_cell B_gb.out 1).trans rfl; have x_gb_2 : w1.cell? ⟨gb, 2, none⟩ = some (.slice A0_2 l0_2.length c0_2) := (blk_cell B_gb.out 2).trans rfl) | (have _t := tok0; go_at_call 55; (with_reducible refine (CI _ (by repeat (first | (with_reducible first | exact HB.out | apply below_alloc | apply pw_below_drewN | apply below_drew1) | exact HB.out))).mono ?_); rintro e w2 ⟨rfl, hb_⟩; clear x_gb_0 x_gb_1 x_gb_2; have n0_ := Aside0.mk (below_step (by repeat (first | (with_reducible first | exact HB.out | apply below_alloc | apply pw_below_drewN | apply below_drew1) | exact HB.out)) hb_); have n_gb := Aside0.mk (blk_below (by (with_reducible repeat (first | refine blk_drewN ?_ _ | refine blk_drew ?_ | refine blk_alloc ?_ _)); exact B_gb.out) hb_); clear HB B_gb; have HB := n0_; have B_gb := n_gb; clear n0_ n_gb; clear hb_; have x_gb_0 : w2.cell? ⟨gb, 0, none⟩ = some (.int .i64 nons) := (blk_cell B_gb.out 0).trans rfl; have x_gb_1 : w2.cell? ⟨gb, 1, none⟩ = some (.int .i64 a0_1) := (blk_cell B_gb.out 1).trans rfl; have x_gb_2 : w2.cell? ⟨gb, 2, none⟩ = some (.slice A0_2 l0_2.length c0_2) := (blk_cell B_gb.out 2).trans rfl; clear CI; clear tok0; have tok1 : True := trivial) | (have _t := tok1; go_at_call 66; (with_reducible refine (CW _ (by repeat (first | (with_reducible first | exact HB.out | apply below_alloc | apply pw_below_drewN | apply below_drew1) | exact HB.out))).mono ?_); rintro e w3 ⟨rfl, hb_⟩; clear x_gb_0 x_gb_1 x_gb_2; have n0_ := Aside0.mk (below_step (by repeat (first | (with_reducible first | exact HB.out | apply below_alloc | apply pw_below_drewN | apply below_drew1) | exact HB.out)) hb_); have n_gb := Aside0.mk (blk_below (by (with_reducible repeat (first | refine blk_drewN ?_ _ | refine blk_drew ?_ | refine blk_alloc ?_ _)); exact B_gb.out) hb_); clear HB B_gb; have HB := n0_; have B_gb := n_gb; clear n0_ n_gb; clear hb_; have x_gb_0 : w3.cell? ⟨gb, 0, none⟩ = some (.int .i64 nons) := (blk_cell B_gb.out 0).trans rfl; have x_gb_1 : w3.cell? ⟨gb, 1, none⟩ = some (.int .i64 a0_1) := (blk_cell B_gb.out 1).trans rfl; have x_gb_2 : w3.cell? ⟨gb, 2, none⟩ = some (.slice A0_2 l0_2.length c0_2) := (blk_cell B_gb.out 2).trans rfl; clear CW; clear tok1; have tok2 : True := trivial) | (have _t := tok2; go_at_call 67; (with_reducible refine (CS _ (by repeat (first | (with_reducible first | exact HB.out | apply below_alloc | apply pw_below_drewN | apply below_drew1) | exact HB.out))).mono ?_); rintro e w4 ⟨gt, rfl, ht, hge, hb_⟩; have hge2 := Aside0.mk (Nat.le_trans (below_size (by repeat (first | (with_reducible first | exact HB.out | apply below_alloc | apply pw_below_drewN | apply below_drew1) | exact HB.out))) hge); clear x_gb_0 x_gb_1 x_gb_2; have n0_ := Aside0.mk (below_step (by repeat (first | (with_reducible first | exact HB.out | apply below_alloc | apply pw_below_drewN | apply below_drew1) | exact HB.out)) hb_); have n_gb := Aside0.mk (blk_below (by (with_reducible repeat (first | refine blk_drewN ?_ _ | refine blk_drew ?_ | refine blk_alloc ?_ _)); exact B_gb.out) hb_); clear HB B_gb; have HB := n0_; have B_gb := n_gb; clear n0_ n_gb; clear hb_; have x_gb_0 : w4.cell? ⟨gb, 0, none⟩ = some (.int .i64 nons) := (blk_cell B_gb.out 0).trans rfl; have x_gb_1 : w4.cell? ⟨gb, 1, none⟩ = some (.int .i64 a0_1) := (blk_cell B_gb.out 1).trans rfl; have x_gb_2 : w4.cell? ⟨gb, 2, none⟩ = some (.slice A0_2 l0_2.length c0_2) := (blk_cell B_gb.out 2).trans rfl; have HT := Aside0.mk ht; have HGE := hge2; clear CS ht hge hge2; clear tok2))
      (try clear x_gb_0 x_gb_1 x_gb_2)
      have SP := Aside0.mk (show Sp w gb gt #[.int .i64 nons, .int .i64 a0_1, .slice A0_2 l0_2.length c0_2] (tcs AW lW.length cW t) w4 from ⟨HB.out, B_gb.out, HT.out, (by rintro rfl; have h_ := B_gb.out.symm.trans HT.out; injection h_ with h_; injection h_ with _ h_; exact absurd h_ (by decide)), HGE.out⟩)
      clear HT HGE B_gb HB
      go_wp2_with (first | ((with_reducible refine gate_dst (N := 24) rfl ?_); refine Kd.S_lits (Kd.slice 3 (Kd.int .i64)) (w0 := w) w.heap.size 37 ?hg (N := 24) ?hd (xs := ([] : List (List Int))) (inner := []) (ok := fun _ => True) (fun _ _ => False) ?hr (by rfl) (fun j x hx => by simp at hx) (fun i j k h => h.elim) (fun _ _ _ => trivial) trivial SP.out.below (below_size SP.out.below) (by simp) ?_; (case hd => rfl); (case hg => rfl); (case hr => first | (go_simp; done) | (go_simp; rfl)); intro u w5 ho hB5 hg5 hu5; have n0_ := Aside0.mk (SP.out.grown hg5 (fun h_ => by cases h_) (fun h_ => by cases h_) hB5); have HO := Aside0.mk ho; clear SP ho hB5 hg5 hu5; have SP := n0_; clear n0_))
      go_loopg [7, 28] (lW.length + 1) (fun gg s7 s28 wr => ∃ (f : Nat) (xs : List (List Int)), s28 = .int .i64 f ∧ Aside0 (f ≤ lW.length + 1 ∧ lW.length + 1 - f ≤ gg) ∧ Aside0 (fL t nons lW.length (lW.length + 1 - f) f xs = r1) ∧ Aside0 (xs.length ≤ 66 * f) ∧ Aside0 (Kd.S (Kd.slice 3 (Kd.int .i64)) 37 wr w.heap.size (fun _ => True) s7 xs) ∧ Aside0 (Sp w gb gt #[.int .i64 nons, .int .i64 a0_1, .slice A0_2 l0_2.length c0_2] (tcs AW lW.length cW t) wr))
      case atStart => exact ⟨0, [], rfl, ⟨Nat.zero_le _, Nat.le_refl _⟩, E2, ⟨by simp⟩, HO, SP⟩
      case round =>
        clear SP HO E2
        obtain ⟨f, xs, rfl, FB, FE, LB, HO, SP⟩ := hrel
        by_cases hf : f ≤ lW.length
        · have df : decide ((f : Int) < (lW.length : Int) + 1) = true := decide_eq_true (by omega)
          have dfn : decide (f < lW.length + 1) = true := decide_eq_true (by omega)
          have F := Aside0.mk hf
          have hf10 : (f : Int) ≤ 10 := by omega
          have hf11 : f < 11 := by omega
          have hf11i : (f : Int) < 11 := by omega
          obtain ⟨FL, hFL⟩ : ∃ FL, FL = zL t nons f (lW.length + 1 - f) f xs := ⟨_, rfl⟩
          have FE2 := Aside0.mk (show fL t nons lW.length (lW.length + 1 - (f + 1)) (f + 1) FL = r1 by obtain ⟨m, hm⟩ : ∃ m, lW.length + 1 - f = m + 1 := ⟨lW.length - f, by omega⟩; have h_ := FE.out; rw [hm] at h_; rw [show lW.length + 1 - (f + 1) = m by omega, hFL]; exact h_)
          have ZE := Aside0.mk hFL.symm
          have LZ := Aside0.mk (show xs.length ≤ 66 * f + 6 * f + 0 by have := LB.out; omega)
          clear hf hFL FE LB
          go_wp2
          go_loopg [7, 9] (lW.length + 1) (fun gg s7 s9 wr => ∃ (z : Nat) (xs : List (List Int)), s9 = .int .i64 z ∧ Aside0 (f ≤ z ∧ z ≤ lW.length + 1 ∧ lW.length + 1 - z ≤ gg) ∧ Aside0 (zL t nons f (lW.length + 1 - z) z xs = FL) ∧ Aside0 (xs.length ≤ 66 * f + 6 * z) ∧ Aside0 (Kd.S (Kd.slice 3 (Kd.int .i64)) 37 wr w.heap.size (fun _ => True) s7 xs) ∧ Aside0 (Sp w gb gt #[.int .i64 nons, .int .i64 a0_1, .slice A0_2 l0_2.length c0_2] (tcs AW lW.length cW t) wr))
          case atStart => exact ⟨f, xs, rfl, ⟨Nat.le_refl _, by have := F.out; omega, by omega⟩, ZE, ⟨by have := LZ.out; omega⟩, HO, SP⟩
          case round =>
            clear SP HO ZE LZ
            obtain ⟨z, xs, rfl, ZB, ZE, LB, HO, SP⟩ := hrel
            by_cases hz : z ≤ lW.length
            · have dz : decide ((z : Int) ≤ (lW.length : Int)) = true := decide_eq_true (by omega)
              have dzn : decide (z ≤ lW.length) = true := decide_eq_true hz
              have Z := Aside0.mk hz
              have hz10 : (z : Int) ≤ 10 := by omega
              have hz11 : z < 11 := by omega
              have hz11i : (z : Int) < 11 := by omega
              obtain ⟨ZL, hZL⟩ : ∃ ZL, ZL = kL t f z nons 0 xs := ⟨_, rfl⟩
              have ZE2 := Aside0.mk (show zL t nons f (lW.length + 1 - (z + 1)) (z + 1) ZL = FL by obtain ⟨m, hm⟩ : ∃ m, lW.length + 1 - z = m + 1 := ⟨lW.length - z, by omega⟩; have h_ := ZE.out; rw [hm] at h_; rw [show lW.length + 1 - (z + 1) = m by omega, hZL]; exact h_)
              have KE := Aside0.mk (show kL t f z (nons - 0) 0 xs = ZL from hZL.symm)
              have hx0 : wr.cell? ⟨gb, 0, none⟩ = some (.int .i64 nons) := (blk_cell SP.out.hb 0).trans rfl
              clear hz hZL ZE
              go_wp2
              clear hx0
              go_loopg [7, 40] nons (fun gg s7 s40 wr => ∃ (k : Nat) (xs : List (List Int)), s40 = .int .i64 k ∧ Aside0 (k ≤ nons ∧ nons - k ≤ gg) ∧ Aside0 (kL t f z (nons - k) k xs = ZL) ∧ Aside0 (xs.length ≤ 66 * f + 6 * z + k) ∧ Aside0 (Kd.S (Kd.slice 3 (Kd.int .i64)) 37 wr w.heap.size (fun _ => True) s7 xs) ∧ Aside0 (Sp w gb gt #[.int .i64 nons, .int .i64 a0_1, .slice A0_2 l0_2.length c0_2] (tcs AW lW.length cW t) wr))
              case atStart => exact ⟨0, xs, rfl, ⟨Nat.zero_le _, by omega⟩, KE, ⟨by have := LB.out; omega⟩, HO, SP⟩
              case round =>
                clear SP HO KE LB
                obtain ⟨k, xs, rfl, KB, KE, LB, HO, SP⟩ := hrel
                by_cases hk : k < nons
                · have dk : decide ((k : Int) < (nons : Int)) = true := decide_eq_true (by omega)
                  have dkn : decide (k < nons) = true := decide_eq_true hk
                  have K := Aside0.mk hk
                  have hk6 : k < 6 := by have := HN.out; omega
                  have hk6i : (k : Int) < 6 := by omega
                  obtain ⟨m, hm⟩ : ∃ m, nons - k = m + 1 := ⟨nons - k - 1, by omega⟩
                  have hm2 : nons - (k + 1) = m := by omega
                  have M2 := Aside0.mk hm2
                  have KB2 := Aside0.mk (show k + 1 ≤ nons ∧ nons - (k + 1) ≤ m by omega)
                  have hgg : m < gk := by have := KB.out.2; omega
                  have KE2 := Aside0.mk (show kL t f z m (k + 1) (if tat t k f z = true then xs ++ [[(f : Int), (z : Int), (k : Int)]] else xs) = ZL by have h_ := KE.out; rw [hm] at h_; exact h_)
                  have hct := tat_cell SP.out.ht k f z (by rw [LT.out]; exact tix_lt hk6 (by omega) (by omega))
                  have LX := Aside0.mk (show xs.length < 5864062014805 by have := LB.out; have := F.out; have := Z.out; have := HL.out; omega)
                  clear hm hm2 KE KB hk
                  cases hv : tat t k f z with
                  | false =>
                    rw [hv] at hct
                    have KN := Aside0.mk (show kL t f z (nons - (k + 1)) (k + 1) xs = ZL by have h_ := KE2.out; rw [hv] at h_; rw [M2.out]; exact h_)
                    clear hv KE2
                    go_wp2
                    go_roundg m
                    case measure => omega
                    case rel => exact ⟨k + 1, xs, by go_num, KB2, KN, ⟨by have := LB.out; omega⟩, HO, SP⟩
                  | true =>
                    rw [hv] at hct
                    have KN := Aside0.mk (show kL t f z (nons - (k + 1)) (k + 1) (xs ++ [[(f : Int), (z : Int), (k : Int)]]) = ZL by have h_ := KE2.out; rw [hv] at h_; rw [M2.out]; exact h_)
                    clear hv KE2
                    go_wp2_with (first | ((with_reducible refine gate_dst (N := 57) rfl ?_); refine Kd.R_lit (Kd.int .i64) _ 3 ?hg (N := 57) ?hd (xs := ([(f : Int), (z : Int), (k : Int)] : List Int)) (inner := [.int .i64 f, .int .i64 z, .int .i64 k]) (ok := fun _ => True) (okp := fun _ => True) ?hr ?hp (fun _ hk => hk) trivial (Below.refl _ _) (Nat.le_refl _) (by simp) ?_; (case hd => rfl); (case hg => rfl); (case hr => first | (go_simp; done) | (go_simp; rfl)); (case hp => exact (Reps.one (show Kd.M (Kd.int .i64) _ _ _ (f : Int) [.int .i64 f] from rfl) (Reps.one (show Kd.M (Kd.int .i64) _ _ _ (z : Int) [.int .i64 z] from rfl) (Reps.one (show Kd.M (Kd.int .i64) _ _ _ (k : Int) [.int .i64 k] from rfl) (Reps.none _ _))))); intro v7 w7 ho7 hb hg_ hnew_; clear hg_ hnew_ hct; have n1_ := Aside0.mk (Kd.S_elder' HO.out (Kd.R_base ho7) hb); have n2_ := Aside0.mk (Kd.R_lower ho7 (below_size SP.out.below)); have n3_ := Aside0.mk (SP.out.go hb); clear HO SP ho7 hb; have HO := n1_; have HV := n2_; have SP := n3_; clear n1_ n2_ n3_; obtain ⟨Ao, co, eo⟩ := Kd.R_slice HV.out; subst eo) | ((with_reducible refine gate_builtin (b := .append) (xs := #[.tmp 53, .tmp 58]) rfl ?_); at_builtin; refine Kd.S_append (Kd.slice 3 (Kd.int .i64)) (w0 := w) w.heap.size rfl (.tmp 53) (.tmp 58) 46 37 (.slice none 0 0) 24 rfl Try.underlying46 info37 rfl (by decide) (by omega) u7 xs [(f : Int), (z : Int), (k : Int)] [.slice Ao 3 co] (fun _ => True) (fun k_ => some k_ = (.slice Ao 3 co : Value).ownBlock) rfl rfl ?aP (fun k_ hk_ => ((Kd.R_mono (ok' := fun k_ => ((fun _ => True)) k_ ∧ some k_ ≠ (u7 : Value).ownBlock) (Kd.R_apart' (HV.out) (Kd.S_typed HO.out) (by decide)) (fun k_ hk => ⟨trivial, hk.2⟩))).1 k_ hk_.symm) ?aF ?aO ?aB ?aS ?aL ?_; (case aP => exact Kd.M_row (Kd.R_mono (Kd.R_tight rfl (Kd.R_mono (ok' := fun k_ => ((fun _ => True)) k_ ∧ some k_ ≠ (u7 : Value).ownBlock) (Kd.R_apart' (HV.out) (Kd.S_typed HO.out) (by decide)) (fun k_ hk => ⟨trivial, hk.2⟩))) (fun _ h_ => h_))); (case aB => exact SP.out.below); (case aF => exact (fun _ _ => trivial)); (case aO => exact (Kd.S_mono HO.out (fun k_ hk => ⟨trivial, fun e_ => hk.2 e_⟩))); (case aS => exact (below_size SP.out.below)); (case aL => have := LX.out; omega); intro v8 w8 ho hb hg hat; have n1_ := Aside0.mk (SP.out.grown hg (Kd.S_ne HO.out SP.out.hb (by decide)) (Kd.S_ne HO.out SP.out.ht (by decide)) hb); have n2_ := Aside0.mk ho; clear HO SP HV ho hb hg hat; have HO := n2_; have SP := n1_; clear n1_ n2_))
                    go_roundg m
                    case measure => omega
                    case rel => exact ⟨k + 1, _, by go_num, KB2, KN, ⟨by rw [List.length_append]; have := LB.out; simp; omega⟩, HO, SP⟩
                · have dk : decide ((k : Int) < (nons : Int)) = false := decide_eq_false (by omega)
                  have dkn : decide (k < nons) = false := decide_eq_false hk
                  have ZE3 := Aside0.mk (show zL t nons f (lW.length + 1 - (z + 1)) (z + 1) xs = FL by rw [← ZE2.out, ← KE.out, show nons - k = 0 by omega]; rfl)
                  clear hk KE
                  go_wp2
                  go_roundg (lW.length + 1 - (z + 1))
                  case measure => have h1 := ZB.out; have h2 := Z.out; omega
                  case rel => exact ⟨z + 1, xs, by go_num, ⟨by have h1 := ZB.out; have h2 := Z.out; omega⟩, ZE3, ⟨by have h1 := LB.out; have h2 := KB.out.1; have h3 := HN.out; omega⟩, HO, SP⟩
            · have dz : decide ((z : Int) ≤ (lW.length : Int)) = false := decide_eq_false (by omega)
              have dzn : decide (z ≤ lW.length) = false := decide_eq_false hz
              have FE3 := Aside0.mk (show fL t nons lW.length (lW.length + 1 - (f + 1)) (f + 1) xs = r1 by rw [← FE2.out, ← ZE.out, show lW.length + 1 - z = 0 by omega]; rfl)
              clear hz ZE
              go_wp2
              go_roundg (lW.length + 1 - (f + 1))
              case measure => have h1 := FB.out; have h2 := F.out; omega
              case rel => exact ⟨f + 1, xs, by go_num, ⟨by have h2 := F.out; omega⟩, FE3, ⟨by have h1 := LB.out; have h2 := ZB.out; have h3 := HL.out; omega⟩, HO, SP⟩
        · have df : decide ((f : Int) < (lW.length : Int) + 1) = false := decide_eq_false (by omega)
          have dfn : decide (f < lW.length + 1) = false := decide_eq_false (by omega)
          have RE := Aside0.mk (show xs = r1 by rw [← FE.out, show lW.length + 1 - f = 0 by omega]; rfl)
          clear hf FE
          go_wp2
          go_ret2
          exact ⟨_, rfl, by rw [← RE.out]; exact HO.out, SP.out.below⟩
    | false =>
      rw [hw] at CW
      have hf : (([] : List (List Int)), false) = (r1, r2) := by unfold impl_SpansOf.f at h; rw [if_pos hg, if_neg (by rw [hw]; exact Bool.false_ne_true)] at h; exact Option.some.inj h
      obtain ⟨e1, e2⟩ := Prod.mk.inj hf
      subst e1 e2
      clear h hf hr0_2 hrW
      go_enter Try.func33, Try.ntmps33
      go_wp2_with (first | ((with_reducible refine gate_dst (N := 2) rfl ?_); refine box_event ?hg (N := 2) ?hd (cs := #[.int .i64 a0_0, .int .i64 a0_1, .slice A0_2 l0_2.length c0_2]) (t := 28) ?hr ?_; (case hd => rfl); (case hg => rfl); (case hr => first | (go_simp; done) | (go_simp; rfl)); intro gb hg_ w1 hbox_ hb_; have GE_gb := Aside0.mk (show w.heap.size ≤ gb by rw [hg_]; exact below_size (by repeat (first | (with_reducible first | exact HB.out | apply below_alloc | apply pw_below_drewN | apply below_drew1) | exact HB.out))); have n0_ := Aside0.mk (below_step (by repeat (first | (with_reducible first | exact HB.out | apply below_alloc | apply pw_below_drewN | apply below_drew1) | exact HB.out)) hb_); clear HB; have HB := n0_; clear n0_; have B_gb := Aside0.mk hbox_; clear hb_ hbox_ hg_; have x_gb_0 : w1.cell? ⟨gb, 0, none⟩ = some (.int .i64 a0_0) := (blk_cell B_gb.out 0).trans rfl; have x_gb_1 : w1.cell? ⟨gb, 1, none⟩ = some (.int .i64 a0_1) := (blk_cell B_gb.out 1).trans rfl; have x_gb_2 : w1.cell? ⟨gb, 2, none⟩ = some (.slice A0_2 l0_2.length c0_2) := (blk_cell B_gb.out 2).trans rfl) | (have _t := tok0; go_at_call 55; (with_reducible refine (CI _ (by repeat (first | (with_reducible first | exact HB.out | apply below_alloc | apply pw_below_drewN | apply below_drew1) | exact HB.out))).mono ?_); rintro e w2 ⟨rfl, hb_⟩; clear x_gb_0 x_gb_1 x_gb_2; have n0_ := Aside0.mk (below_step (by repeat (first | (with_reducible first | exact HB.out | apply below_alloc | apply pw_below_drewN | apply below_drew1) | exact HB.out)) hb_); have n_gb := Aside0.mk (blk_below (by (with_reducible repeat (first | refine blk_drewN ?_ _ | refine blk_drew ?_ | refine blk_alloc ?_ _)); exact B_gb.out) hb_); clear HB B_gb; have HB := n0_; have B_gb := n_gb; clear n0_ n_gb; clear hb_; have x_gb_0 : w2.cell? ⟨gb, 0, none⟩ = some (.int .i64 a0_0) := (blk_cell B_gb.out 0).trans rfl; have x_gb_1 : w2.cell? ⟨gb, 1, none⟩ = some (.int .i64 a0_1) := (blk_cell B_gb.out 1).trans rfl; have x_gb_2 : w2.cell? ⟨gb, 2, none⟩ = some (.slice A0_2 l0_2.length c0_2) := (blk_cell B_gb.out 2).trans rfl; clear CI; clear tok0; have tok1 : True := trivial) | (have _t := tok1; go_at_call 66; (with_reducible refine (CW _ (by repeat (first | (with_reducible first | exact HB.out | apply below_alloc | apply pw_below_drewN | apply below_drew1) | exact HB.out))).mono ?_); rintro e w3 ⟨rfl, hb_⟩; clear x_gb_0 x_gb_1 x_gb_2; have n0_ := Aside0.mk (below_step (by repeat (first | (with_reducible first | exact HB.out | apply below_alloc | apply pw_below_drewN | apply below_drew1) | exact HB.out)) hb_); have n_gb := Aside0.mk (blk_below (by (with_reducible repeat (first | refine blk_drewN ?_ _ | refine blk_drew ?_ | refine blk_alloc ?_ _)); exact B_gb.out) hb_); clear HB B_gb; have HB := n0_; have B_gb := n_gb; clear n0_ n_gb; clear hb_; have x_gb_0 : w3.cell? ⟨gb, 0, none⟩ = some (.int .i64 a0_0) := (blk_cell B_gb.out 0).trans rfl; have x_gb_1 : w3.cell? ⟨gb, 1, none⟩ = some (.int .i64 a0_1) := (blk_cell B_gb.out 1).trans rfl; have x_gb_2 : w3.cell? ⟨gb, 2, none⟩ = some (.slice A0_2 l0_2.length c0_2) := (blk_cell B_gb.out 2).trans rfl; clear CW; clear tok1))
      go_ret2
      exact ⟨_, rfl, Kd.S_nil _ _ _ _ _, (by repeat (first | (with_reducible first | exact HB.out | apply below_alloc | apply pw_below_drewN | apply below_drew1) | exact HB.out))⟩
  | false =>
    rw [hg] at CI
    have hf : (([] : List (List Int)), false) = (r1, r2) := by unfold impl_SpansOf.f at h; rw [if_neg (by rw [hg]; exact Bool.false_ne_true)] at h; exact Option.some.inj h
    obtain ⟨e1, e2⟩ := Prod.mk.inj hf
    subst e1 e2
    clear h hf hr0_2 hrW
    go_enter Try.func33, Try.ntmps33
    go_wp2_with (first | ((with_reducible refine gate_dst (N := 2) rfl ?_); refine box_event ?hg (N := 2) ?hd (cs := #[.int .i64 a0_0, .int .i64 a0_1, .slice A0_2 l0_2.length c0_2]) (t := 28) ?hr ?_; (case hd => rfl); (case hg => rfl); (case hr => first | (go_simp; done) | (go_simp; rfl)); intro gb hg_ w1 hbox_ hb_; have GE_gb := Aside0.mk (show w.heap.size ≤ gb by rw [hg_]; exact below_size (by repeat (first | (with_reducible first | exact HB.out | apply below_alloc | apply pw_below_drewN | apply below_drew1) | exact HB.out))); have n0_ := Aside0.mk (below_step (by repeat (first | (with_reducible first | exact HB.out | apply below_alloc | apply pw_below_drewN | apply below_drew1) | exact HB.out)) hb_); clear HB; have HB := n0_; clear n0_; have B_gb := Aside0.mk hbox_; clear hb_ hbox_ hg_; have x_gb_0 : w1.cell? ⟨gb, 0, none⟩ = some (.int .i64 a0_0) := (blk_cell B_gb.out 0).trans rfl; have x_gb_1 : w1.cell? ⟨gb, 1, none⟩ = some (.int .i64 a0_1) := (blk_cell B_gb.out 1).trans rfl; have x_gb_2 : w1.cell? ⟨gb, 2, none⟩ = some (.slice A0_2 l0_2.length c0_2) := (blk_cell B_gb.out 2).trans rfl) | (have _t := tok0; go_at_call 55; (with_reducible refine (CI _ (by repeat (first | (with_reducible first | exact HB.out | apply below_alloc | apply pw_below_drewN | apply below_drew1) | exact HB.out))).mono ?_); rintro e w2 ⟨rfl, hb_⟩; clear x_gb_0 x_gb_1 x_gb_2; have n0_ := Aside0.mk (below_step (by repeat (first | (with_reducible first | exact HB.out | apply below_alloc | apply pw_below_drewN | apply below_drew1) | exact HB.out)) hb_); have n_gb := Aside0.mk (blk_below (by (with_reducible repeat (first | refine blk_drewN ?_ _ | refine blk_drew ?_ | refine blk_alloc ?_ _)); exact B_gb.out) hb_); clear HB B_gb; have HB := n0_; have B_gb := n_gb; clear n0_ n_gb; clear hb_; have x_gb_0 : w2.cell? ⟨gb, 0, none⟩ = some (.int .i64 a0_0) := (blk_cell B_gb.out 0).trans rfl; have x_gb_1 : w2.cell? ⟨gb, 1, none⟩ = some (.int .i64 a0_1) := (blk_cell B_gb.out 1).trans rfl; have x_gb_2 : w2.cell? ⟨gb, 2, none⟩ = some (.slice A0_2 l0_2.length c0_2) := (blk_cell B_gb.out 2).trans rfl; clear CI CW; clear tok0))
    go_ret2
    exact ⟨_, rfl, Kd.S_nil _ _ _ _ _, (by repeat (first | (with_reducible first | exact HB.out | apply below_alloc | apply pw_below_drewN | apply below_drew1) | exact HB.out))⟩
end Go.Proofs.Ytekoclhnfhbmeaa.P
namespace Go.Proofs.Ytekoclhnfhbmeaa.P
open Go.RowKit Go.Proofs.YtekoclhnfhbmeaaW.PrintWords Go.Proofs.YtekoclhnfhbmeaaW.PrintLast Go.Proofs.YtekoclhnfhbmeaaW.PrintMore
attribute [local go_sem] max2_int min2_int max_two min_two max_three min_three max_four min_four
set_option linter.unusedVariables false
set_option linter.unusedSimpArgs false
mutual
def spec_SpansOf.l0 : Nat → List (List Bool) → Int → List (List Int) → Int → Option ((List (List Int)) × Bool)
  | 0, _, _, _, _ => none
  | k + 1, x6, x7, x8, x9 => if x9 < x7 then (spec_SpansOf.l1 k x6 x7 x8 x9 x9) else (some (x8, true))
def spec_SpansOf.l1 : Nat → List (List Bool) → Int → List (List Int) → Int → Int → Option ((List (List Int)) × Bool)
  | 0, _, _, _, _, _ => none
  | k + 1, x6, x7, x8, x9, x10 => if x10 < x7 then (spec_SpansOf.l2 k x6 x7 x8 x9 x10 (x6.length : Int) 0) else (spec_SpansOf.l0 k x6 x7 x8 (wrap64 (x9 + 1)))
def spec_SpansOf.l2 : Nat → List (List Bool) → Int → List (List Int) → Int → Int → Int → Int → Option ((List (List Int)) × Bool)
  | 0, _, _, _, _, _, _, _ => none
  | k + 1, x6, x7, x8, x9, x10, x34, x35 => if x35 < x34 then (if 0 ≤ x35 then (if x35 < (x6.length : Int) then (if 0 ≤ (wrap64 ((wrap64 (x9 * x7)) + x10)) then (if (wrap64 ((wrap64 (x9 * x7)) + x10)) < ((rd_L7 x6 x35).length : Int) then (if rdOf false (rd_L7 x6 x35) (wrap64 ((wrap64 (x9 * x7)) + x10)) = true then (if x8.length < 5864062014805 then (spec_SpansOf.l2 k x6 x7 (x8 ++ [(([x9, x10, x35] : List Int))]) x9 x10 x34 (wrap64 (x35 + 1))) else (none)) else (spec_SpansOf.l2 k x6 x7 x8 x9 x10 x34 (wrap64 (x35 + 1)))) else (none)) else (none)) else (none)) else (none)) else (spec_SpansOf.l1 k x6 x7 x8 x9 (wrap64 (x10 + 1)))
end
def spec_SpansOf.f (k : Nat) (a0_0 : Int) (a0_1 : Int) (l0_2 : List (S87)) (l1 : List Int) : Option ((List (List Int)) × Bool) := (spec_GoodWord.f k a0_0 a0_1 l0_2 l1).bind fun t102 => (if t102 = true then ((spec_l4Table.f k a0_0 a0_1 l0_2 l1).bind fun t103 => (spec_SpansOf.l0 k t103 (wrap64 ((l1.length : Int) + 1)) ([] : List (List Int)) 0)) else (some (([] : List (List Int)), false)))
set_option maxHeartbeats 8000000 in
set_option maxRecDepth 100000 in
theorem spec_SpansOf.calls (k : Nat) (a0_0 : Int) (a0_1 : Int) (A0_2 : Option Addr) (c0_2 : Nat) (l0_2 : List (S87)) (A1 : Option Addr) (c1 : Nat) (l1 : List Int) (r1 : List (List Int)) (r2 : Bool) (w : World) (hr0_2 : Kd.C k87 w A0_2 l0_2.length l0_2) (hc0_2 : l0_2.length ≤ c0_2) (hr1 : Kd.C (Kd.int .i64) w A1 l1.length l1) (hc1 : l1.length ≤ c1) (h : spec_SpansOf.f k a0_0 a0_1 l0_2 l1 = some (r1, r2)) :
    Calls Try.prog 32 #[.agg #[.int .i64 a0_0, .int .i64 a0_1, .slice A0_2 l0_2.length c0_2], .slice A1 l1.length c1] w fun e w' => ∃ v0_ : Value, e = .returned (.tuple #[v0_, .bool r2]) ∧ Kd.S (Kd.slice 3 (Kd.int .i64)) 37 w' w.heap.size (fun _ => True) v0_ r1 ∧ Below w.heap.size w w' := by
  have hu28 := Try.underlying28
  have HR0_2 := Aside0.mk hr0_2
  have HC0_2 := Aside0.mk hc0_2
  clear hr0_2 hc0_2
  have HR1 := Aside0.mk hr1
  have HC1 := Aside0.mk hc1
  clear hr1 hc1
  have HB := Aside0.mk (Below.refl w.heap.size w)
  have H : ((spec_GoodWord.f k a0_0 a0_1 l0_2 l1).bind fun t102 => (if t102 = true then ((spec_l4Table.f k a0_0 a0_1 l0_2 l1).bind fun t103 => (spec_SpansOf.l0 k t103 (wrap64 ((l1.length : Int) + 1)) ([] : List (List Int)) 0)) else (some (([] : List (List Int)), false)))) = some (r1, r2) := h
  clear h
  replace H := Option.bind_eq_some_iff.mp H
  obtain ⟨t102, A30, H⟩ := H
  replace H : (if t102 = true then ((spec_l4Table.f k a0_0 a0_1 l0_2 l1).bind fun t103 => (spec_SpansOf.l0 k t103 (wrap64 ((l1.length : Int) + 1)) ([] : List (List Int)) 0)) else (some (([] : List (List Int)), false))) = some (r1, r2) := H
  have A3 := Aside0.mk A30
  clear A30
  by_cases c4 : t102 = true
  · subst c4
    have H1 : ((spec_l4Table.f k a0_0 a0_1 l0_2 l1).bind fun t103 => (spec_SpansOf.l0 k t103 (wrap64 ((l1.length : Int) + 1)) ([] : List (List Int)) 0)) = some (r1, r2) := by rw [if_pos rfl] at H; exact H
    clear H
    have H := H1
    clear H1
    replace H := Option.bind_eq_some_iff.mp H
    obtain ⟨t103, A50, H⟩ := H
    replace H : (spec_SpansOf.l0 k t103 (wrap64 ((l1.length : Int) + 1)) ([] : List (List Int)) 0) = some (r1, r2) := H
    have A5 := Aside0.mk A50
    clear A50
    have H' := Aside0.mk H
    clear H
    go_enter Try.func32, Try.ntmps32
    go_wp2_with (first | ((with_reducible refine gate_dst (N := 2) rfl ?_); refine box_event ?hg (N := 2) ?hd (cs := #[.int .i64 a0_0, .int .i64 a0_1, .slice A0_2 l0_2.length c0_2]) (t := 28) ?hr ?_; (case hd => rfl); (case hg => rfl); (case hr => first | (go_simp; done) | (go_simp; rfl)); intro gb101 hg w6 hbox hb; have n0_ := Aside0.mk (below_step (by repeat (first | (with_reducible first | exact HB.out | apply below_alloc | apply pw_below_drewN | apply below_drew1) | exact HB.out)) hb); have n1_ := Aside0.mk (hbox); have n2_ := Aside0.mk ((by rw [hg]; exact (below_size (by repeat (first | (with_reducible first | exact HB.out | apply below_alloc | apply pw_below_drewN | apply below_drew1) | exact HB.out))) : w.heap.size ≤ gb101)); have n3_ := Aside0.mk ((by rw [hg]; exact (below_size (by repeat (first | (with_reducible first | exact HB.out | apply below_alloc | apply pw_below_drewN | apply below_drew1) | exact HB.out))) : w.heap.size ≤ gb101)); clear HB; have HB := n0_; have BK101 := n1_; have GW101 := n2_; have GE101 := n3_; clear n0_ n1_ n2_ n3_; clear hb hbox hg; have hcz7_0 : w6.cell? ⟨gb101, 0, none⟩ = some (.int .i64 a0_0) := (blk_cell BK101.out 0).trans rfl; have hcz7_1 : w6.cell? ⟨gb101, 1, none⟩ = some (.int .i64 a0_1) := (blk_cell BK101.out 1).trans rfl; have hcz7_2 : w6.cell? ⟨gb101, 2, none⟩ = some (.slice A0_2 l0_2.length c0_2) := (blk_cell BK101.out 2).trans rfl; have hfz7_0 := blk_frozen BK101.out 0; have hfz7_1 := blk_frozen BK101.out 1; have hfz7_2 := blk_frozen BK101.out 2) | ((with_reducible refine gate_callee (f := 62) rfl ?_); refine goesL_ (some 14) rfl rfl Try.func62 (by kernel_rfl) rfl #[.agg #[.int .i64 a0_0, .int .i64 a0_1, .slice A0_2 l0_2.length c0_2], .slice A1 l1.length c1] rfl (by (try simp only [List.map_toArray, List.map_cons, List.map_nil]); first | done | rfl | (simp only [List.length_drop, List.length_take]; rfl)) ?_; (with_reducible refine (spec_GoodWord.calls k a0_0 a0_1 _ _ l0_2 _ _ l1 true _ ?side1 ?side2 ?side3 ?side4 A3.out).mono ?_); (case side1 => repeat (first | exact (Kd.C_below HR0_2.out HB.out) | (with_reducible refine Kd.C_alloc ?_ _) | (with_reducible refine Kd.C_drewN ?_ _) | (with_reducible refine Kd.C_drew ?_))); (case side2 => exact HC0_2.out); (case side3 => repeat (first | exact (Kd.C_below HR1.out HB.out) | (with_reducible refine Kd.C_alloc ?_ _) | (with_reducible refine Kd.C_drewN ?_ _) | (with_reducible refine Kd.C_drew ?_))); (case side4 => exact HC1.out); rintro e w8 ⟨rfl, hb⟩; refine ⟨_, rfl, ?_⟩; have n0_ := Aside0.mk (blk_below (g := gb101) (o := .cells #[.int .i64 a0_0, .int .i64 a0_1, .slice A0_2 l0_2.length c0_2] 28 (0, 0)) (by (with_reducible repeat (first | refine blk_drewN ?_ _ | refine blk_drew ?_ | refine blk_alloc ?_ _)); exact BK101.out) hb); have n1_ := Aside0.mk (below_step (by repeat (first | (with_reducible first | exact HB.out | apply below_alloc | apply pw_below_drewN | apply below_drew1 | refine below_set ?_ GE101.out) | exact HB.out)) hb); clear BK101; clear HB; have BK101 := n0_; have HB := n1_; clear n0_ n1_; (try clear hb); (try clear hb2); (try clear hk); (try clear hi); have hcz9_0 : w8.cell? ⟨gb101, 0, none⟩ = some (.int .i64 a0_0) := (blk_cell BK101.out 0).trans rfl; have hcz9_1 : w8.cell? ⟨gb101, 1, none⟩ = some (.int .i64 a0_1) := (blk_cell BK101.out 1).trans rfl; have hcz9_2 : w8.cell? ⟨gb101, 2, none⟩ = some (.slice A0_2 l0_2.length c0_2) := (blk_cell BK101.out 2).trans rfl; have hfz9_0 := blk_frozen BK101.out 0; have hfz9_1 := blk_frozen BK101.out 1; have hfz9_2 := blk_frozen BK101.out 2) | ((with_reducible refine gate_callee (f := 70) rfl ?_); refine goesL_ (some 18) rfl rfl Try.func70 (by kernel_rfl) rfl #[.agg #[.int .i64 a0_0, .int .i64 a0_1, .slice A0_2 l0_2.length c0_2], .slice A1 l1.length c1] rfl (by (try simp only [List.map_toArray, List.map_cons, List.map_nil]); first | done | rfl | (simp only [List.length_drop, List.length_take]; rfl)) ?_; (with_reducible refine (spec_l4Table.calls k a0_0 a0_1 _ _ l0_2 _ _ l1 t103 _ ?side1 ?side2 ?side3 ?side4 A5.out).mono ?_); (case side1 => repeat (first | exact (Kd.C_below HR0_2.out HB.out) | (with_reducible refine Kd.C_alloc ?_ _) | (with_reducible refine Kd.C_drewN ?_ _) | (with_reducible refine Kd.C_drew ?_))); (case side2 => exact HC0_2.out); (case side3 => repeat (first | exact (Kd.C_below HR1.out HB.out) | (with_reducible refine Kd.C_alloc ?_ _) | (with_reducible refine Kd.C_drewN ?_ _) | (with_reducible refine Kd.C_drew ?_))); (case side4 => exact HC1.out); rintro e w10 ⟨v104, rfl, ho0, hb⟩; refine ⟨_, rfl, ?_⟩; have n0_ := Aside0.mk (Kd.S_lower ho0 (below_size (by repeat (first | (with_reducible first | exact HB.out | apply below_alloc | apply pw_below_drewN | apply below_drew1 | refine below_set ?_ GE101.out) | exact HB.out)))); have n1_ := Aside0.mk (blk_below (g := gb101) (o := .cells #[.int .i64 a0_0, .int .i64 a0_1, .slice A0_2 l0_2.length c0_2] 28 (0, 0)) (by (with_reducible repeat (first | refine blk_drewN ?_ _ | refine blk_drew ?_ | refine blk_alloc ?_ _)); exact BK101.out) hb); have n2_ := Aside0.mk (below_step (by repeat (first | (with_reducible first | exact HB.out | apply below_alloc | apply pw_below_drewN | apply below_drew1 | refine below_set ?_ GE101.out) | exact HB.out)) hb); clear BK101; clear HB; have HO105 := n0_; have BK101 := n1_; have HB := n2_; clear n0_ n1_ n2_; (try clear hb); (try clear hb2); (try clear hk); (try clear hi); (try clear ho0)))
    go_loopg [8, 9] k (fun kq v8 v9 w' => ∃ (x8_1 : List (List Int)) (x9_1 : Int), v9 = .int .i64 x9_1 ∧ Aside0 (spec_SpansOf.l0 kq t103 (wrap64 ((l1.length : Int) + 1)) x8_1 x9_1 = some (r1, r2)) ∧ Aside0 (kq ≤ k) ∧ Aside0 (Kd.S (Kd.slice 4 Kd.bool) 84 w' w.heap.size (fun _ => True) v104 t103) ∧ Aside0 (Kd.S (Kd.slice 3 (Kd.int .i64)) 37 w' w.heap.size (fun _ => True) v8 x8_1) ∧ Aside0 (w'.heap[gb101]? = some (.cells #[.int .i64 a0_0, .int .i64 a0_1, (.slice A0_2 l0_2.length c0_2)] 28 (0, 0))) ∧ Aside0 (Below w.heap.size w w'))
    case atStart => exact ⟨(([] : List (List Int))), (0), (by first | rfl | (simp; done) | (simp [*]; done)), H', ⟨Nat.le_refl _⟩, ⟨by (with_reducible repeat (first | apply Kd.S_alloc | apply Kd.S_drewN | apply Kd.S_drew)); exact HO105.out⟩, ⟨by first | exact Kd.S_nil _ _ _ _ _ | exact Kd.N_nil _ _ _ _ _ | exact Kd.V_nil _ _ _ _ _ | exact Kd.Q_nil _ _ _ _ _ | exact Kd.R_nil _ _ _ _ _⟩, ⟨by (with_reducible repeat (first | refine blk_drewN ?_ _ | refine blk_drew ?_ | refine blk_alloc ?_ _)); exact BK101.out⟩, ⟨by repeat (first | (with_reducible first | exact HB.out | apply below_alloc | apply pw_below_drewN | apply below_drew1 | refine below_set ?_ GE101.out) | exact HB.out)⟩⟩
    case round =>
      clear H'
      try clear c1
      try clear p2
      try clear c3
      try clear c4
      try clear c6
      try clear p6
      try clear c7
      try clear hcz7_0
      try clear hcz7_1
      try clear hcz7_2
      try clear hcz9_0
      try clear hcz9_1
      try clear hcz9_2
      try clear hfz7_0
      try clear hfz7_1
      try clear hfz7_2
      try clear hfz9_0
      try clear hfz9_1
      try clear hfz9_2
      obtain ⟨x8_1, x9_1, rfl, HA, HK1, HO_6, HO_8, BK101, HB⟩ := hrel
      cases gk with
      | zero => exact absurd HA.out (by simp [spec_SpansOf.l0])
      | succ k1 =>
        have H := HA.out
        clear HA
        simp only [spec_SpansOf.l0] at H
        by_cases c11 : x9_1 < (wrap64 ((l1.length : Int) + 1))
        · rw [if_pos c11] at H
          have c11b0 : decide (x9_1 < (wrap64 ((l1.length : Int) + 1))) = true := decide_eq_true c11
          clear c11
          have H' := Aside0.mk H
          clear H
          go_wp2
          go_loopg [8, 10] k1 (fun kq v8 v10 w' => ∃ (x8_2 : List (List Int)) (x10_2 : Int), v10 = .int .i64 x10_2 ∧ Aside0 (spec_SpansOf.l1 kq t103 (wrap64 ((l1.length : Int) + 1)) x8_2 x9_1 x10_2 = some (r1, r2)) ∧ Aside0 (kq ≤ k1) ∧ Aside0 (Kd.S (Kd.slice 4 Kd.bool) 84 w' w.heap.size (fun _ => True) v104 t103) ∧ Aside0 (Kd.S (Kd.slice 3 (Kd.int .i64)) 37 w' w.heap.size (fun _ => True) v8 x8_2) ∧ Aside0 (w'.heap[gb101]? = some (.cells #[.int .i64 a0_0, .int .i64 a0_1, (.slice A0_2 l0_2.length c0_2)] 28 (0, 0))) ∧ Aside0 (Below w.heap.size w w'))
          case atStart => exact ⟨(x8_1), (x9_1), (by first | rfl | (simp; done) | (simp [*]; done)), H', ⟨Nat.le_refl _⟩, ⟨by (with_reducible repeat (first | apply Kd.S_alloc | apply Kd.S_drewN | apply Kd.S_drew)); exact HO_6.out⟩, ⟨by (with_reducible repeat (first | apply Kd.S_alloc | apply Kd.S_drewN | apply Kd.S_drew)); exact HO_8.out⟩, ⟨by (with_reducible repeat (first | refine blk_drewN ?_ _ | refine blk_drew ?_ | refine blk_alloc ?_ _)); exact BK101.out⟩, ⟨by repeat (first | (with_reducible first | exact HB.out | apply below_alloc | apply pw_below_drewN | apply below_drew1 | refine below_set ?_ GE101.out) | exact HB.out)⟩⟩
          case round =>
            clear H'
            try clear c1
            try clear p2
            try clear c3
            try clear c4
            try clear c6
            try clear p6
            try clear c7
            try clear c11
            try clear c11b0
            try clear hcz7_0
            try clear hcz7_1
            try clear hcz7_2
            try clear hcz9_0
            try clear hcz9_1
            try clear hcz9_2
            try clear hfz7_0
            try clear hfz7_1
            try clear hfz7_2
            try clear hfz9_0
            try clear hfz9_1
            try clear hfz9_2
            try clear p2
            try clear p6
            obtain ⟨x8_2, x10_2, rfl, HA, HK2, HO_6, HO_8, BK101, HB⟩ := hrel
            cases gk with
            | zero => exact absurd HA.out (by simp [spec_SpansOf.l1])
            | succ k2 =>
              have H := HA.out
              clear HA
              simp only [spec_SpansOf.l1] at H
              by_cases c12 : x10_2 < (wrap64 ((l1.length : Int) + 1))
              · rw [if_pos c12] at H
                have c12b0 : decide (x10_2 < (wrap64 ((l1.length : Int) + 1))) = true := decide_eq_true c12
                clear c12
                have H' := Aside0.mk H
                clear H
                obtain ⟨Ao13, co13, eo13⟩ := Kd.S_slice HO_6.out
                subst eo13
                go_wp2
                go_loopg [8, 35] k2 (fun kq v8 v35 w' => ∃ (x8_3 : List (List Int)) (x35_3 : Int), v35 = .int .i64 x35_3 ∧ Aside0 (spec_SpansOf.l2 kq t103 (wrap64 ((l1.length : Int) + 1)) x8_3 x9_1 x10_2 (t103.length : Int) x35_3 = some (r1, r2)) ∧ Aside0 (kq ≤ k2) ∧ Aside0 (Kd.S (Kd.slice 4 Kd.bool) 84 w' w.heap.size (fun _ => True) (.slice Ao13 t103.length co13) t103) ∧ Aside0 (Kd.S (Kd.slice 3 (Kd.int .i64)) 37 w' w.heap.size (fun _ => True) v8 x8_3) ∧ Aside0 (w'.heap[gb101]? = some (.cells #[.int .i64 a0_0, .int .i64 a0_1, (.slice A0_2 l0_2.length c0_2)] 28 (0, 0))) ∧ Aside0 (Below w.heap.size w w'))
                case atStart => exact ⟨(x8_2), (0), (by first | rfl | (simp; done) | (simp [*]; done)), H', ⟨Nat.le_refl _⟩, ⟨by (with_reducible repeat (first | apply Kd.S_alloc | apply Kd.S_drewN | apply Kd.S_drew)); exact HO_6.out⟩, ⟨by (with_reducible repeat (first | apply Kd.S_alloc | apply Kd.S_drewN | apply Kd.S_drew)); exact HO_8.out⟩, ⟨by (with_reducible repeat (first | refine blk_drewN ?_ _ | refine blk_drew ?_ | refine blk_alloc ?_ _)); exact BK101.out⟩, ⟨by repeat (first | (with_reducible first | exact HB.out | apply below_alloc | apply pw_below_drewN | apply below_drew1 | refine below_set ?_ GE101.out) | exact HB.out)⟩⟩
                case round =>
                  clear H'
                  try clear c1
                  try clear p2
                  try clear c3
                  try clear c4
                  try clear c6
                  try clear p6
                  try clear c7
                  try clear c11
                  try clear c11b0
                  try clear c12
                  try clear c12b0
                  try clear hcz7_0
                  try clear hcz7_1
                  try clear hcz7_2
                  try clear hcz9_0
                  try clear hcz9_1
                  try clear hcz9_2
                  try clear hfz7_0
                  try clear hfz7_1
                  try clear hfz7_2
                  try clear hfz9_0
                  try clear hfz9_1
                  try clear hfz9_2
                  try clear p2
                  try clear p6
                  obtain ⟨x8_3, x35_3, rfl, HA, HK3, HO_6, HO_8, BK101, HB⟩ := hrel
                  cases gk with
                  | zero => exact absurd HA.out (by simp [spec_SpansOf.l2])
                  | succ k3 =>
                    have H := HA.out
                    clear HA
                    simp only [spec_SpansOf.l2] at H
                    by_cases c14 : x35_3 < (t103.length : Int)
                    · rw [if_pos c14] at H
                      have c14b0 : decide (x35_3 < (t103.length : Int)) = true := decide_eq_true c14
                      clear c14
                      by_cases c15 : 0 ≤ x35_3
                      · rw [if_pos c15] at H
                        have c15b0 : decide (0 ≤ x35_3) = true := decide_eq_true c15
                        clear c15
                        by_cases c16 : x35_3 < (t103.length : Int)
                        · rw [if_pos c16] at H
                          have c16b0 : decide (x35_3 < (t103.length : Int)) = true := decide_eq_true c16
                          clear c16
                          obtain ⟨ji17, hji17⟩ : ∃ j_ : Int, (wrap64 ((wrap64 (x9_1 * (wrap64 ((l1.length : Int) + 1)))) + x10_2)) = j_ := ⟨_, rfl⟩
                          replace H : (if 0 ≤ (ji17) then (if (ji17) < ((rd_L7 t103 x35_3).length : Int) then (if rdOf false (rd_L7 t103 x35_3) (ji17) = true then (if x8_3.length < 5864062014805 then (spec_SpansOf.l2 k3 t103 (wrap64 ((l1.length : Int) + 1)) (x8_3 ++ [(([x9_1, x10_2, x35_3] : List Int))]) x9_1 x10_2 (t103.length : Int) (wrap64 (x35_3 + 1))) else (none)) else (spec_SpansOf.l2 k3 t103 (wrap64 ((l1.length : Int) + 1)) x8_3 x9_1 x10_2 (t103.length : Int) (wrap64 (x35_3 + 1)))) else (none)) else (none)) = some (r1, r2) := by first | (rw [hji17] at H; exact H) | (simp only [hji17] at H ⊢; exact H)
                          have hji17w : (IntKind.i64.wrap ((wrap64 (x9_1 * (wrap64 ((l1.length : Int) + 1)))) + x10_2)) = ji17 := (i64_w _).trans hji17
                          by_cases c18 : 0 ≤ (ji17)
                          · rw [if_pos c18] at H
                            have c18b0 : decide (0 ≤ (ji17)) = true := decide_eq_true c18
                            clear c18
                            by_cases c19 : (ji17) < ((rd_L7 t103 x35_3).length : Int)
                            · rw [if_pos c19] at H
                              have c19b0 : decide ((ji17) < ((rd_L7 t103 x35_3).length : Int)) = true := decide_eq_true c19
                              clear c19
                              obtain ⟨bq20, hbq20⟩ : ∃ b_ : Bool, b_ = (rdOf false (rd_L7 t103 x35_3) (ji17)) := ⟨_, rfl⟩
                              replace H : (if bq20 = true then (if x8_3.length < 5864062014805 then (spec_SpansOf.l2 k3 t103 (wrap64 ((l1.length : Int) + 1)) (x8_3 ++ [(([x9_1, x10_2, x35_3] : List Int))]) x9_1 x10_2 (t103.length : Int) (wrap64 (x35_3 + 1))) else (none)) else (spec_SpansOf.l2 k3 t103 (wrap64 ((l1.length : Int) + 1)) x8_3 x9_1 x10_2 (t103.length : Int) (wrap64 (x35_3 + 1)))) = some (r1, r2) := by rw [← hbq20] at H; exact H
                              have Nbq20 := Aside0.mk hbq20
                              clear hbq20
                              by_cases c21 : bq20 = true
                              · subst c21
                                have H1 : (if x8_3.length < 5864062014805 then (spec_SpansOf.l2 k3 t103 (wrap64 ((l1.length : Int) + 1)) (x8_3 ++ [(([x9_1, x10_2, x35_3] : List Int))]) x9_1 x10_2 (t103.length : Int) (wrap64 (x35_3 + 1))) else (none)) = some (r1, r2) := by rw [if_pos rfl] at H; exact H
                                clear H
                                have H := H1
                                clear H1
                                obtain ⟨y108, hy108⟩ : ∃ y_ : List Int, y_ = (([x9_1, x10_2, x35_3] : List Int)) := ⟨_, rfl⟩
                                replace H : (if x8_3.length < 5864062014805 then (spec_SpansOf.l2 k3 t103 (wrap64 ((l1.length : Int) + 1)) (x8_3 ++ [y108]) x9_1 x10_2 (t103.length : Int) (wrap64 (x35_3 + 1))) else (none)) = some (r1, r2) := by first | (rw [hy108]; with_reducible exact H) | (have H2_ := (Option.bind_some _ _).symm.trans H; rw [hy108]; with_reducible exact H2_) | (have H2_ := (Option.bind_some _ _).symm.trans H; with_reducible exact H2_) | with_reducible exact H | (rw [hy108]; exact H) | exact H
                                have Ny108 := Aside0.mk hy108
                                clear hy108
                                by_cases c22 : x8_3.length < 5864062014805
                                · rw [if_pos c22] at H
                                  have LMc22 := Aside0.mk c22
                                  clear c22
                                  obtain ⟨y111, hy111⟩ : ∃ y_ : List (List Int), y_ = (x8_3 ++ [y108]) := ⟨_, rfl⟩
                                  replace H : (spec_SpansOf.l2 k3 t103 (wrap64 ((l1.length : Int) + 1)) y111 x9_1 x10_2 (t103.length : Int) (wrap64 (x35_3 + 1))) = some (r1, r2) := by first | (rw [hy111]; with_reducible exact H) | (have H2_ := (Option.bind_some _ _).symm.trans H; rw [hy111]; with_reducible exact H2_) | (have H2_ := (Option.bind_some _ _).symm.trans H; with_reducible exact H2_) | with_reducible exact H | (rw [hy111]; exact H) | exact H
                                  have Ny111 := Aside0.mk hy111
                                  clear hy111
                                  have H' := Aside0.mk H
                                  clear H
                                  have p106 : 0 ≤ (x35_3 : Int) := of_decide_eq_true (by first | (with_reducible assumption) | assumption)
                                  have q106 : x35_3 < (t103.length : Int) := of_decide_eq_true (by first | (with_reducible assumption) | assumption)
                                  obtain ⟨ad106, A106_0, c106_0, e106, hx106_0, hl106_0, hi106_0⟩ := at_L7 (Kd.S_reads' HO_6.out).2.2 x35_3 p106 q106
                                  cases e106
                                  obtain ⟨ce106, hce106, hMe106, hcc106⟩ := Kd.S_get HO_6.out [] x35_3 p106 (by first | exact q106 | exact of_decide_eq_true (by first | (with_reducible assumption) | assumption) | (have e_ := (Kd.S_reads' HO_6.out).1; omega))
                                  obtain ⟨ve106_0, rfl, ge106_0⟩ := hMe106
                                  have hv106_0 := hcc106 0 _ rfl
                                  rw [Nat.add_zero, show ((Kd.slice 4 Kd.bool)).sz = 1 from rfl, Nat.mul_one] at hv106_0
                                  replace hv106_0 := Option.some.inj (hv106_0.symm.trans hx106_0)
                                  rw [hv106_0] at ge106_0
                                  have HL106_0 := Aside0.mk (show Kd.R Kd.bool 4 _ _ _ _ (rd_L7 t103 x35_3) from ge106_0)
                                  clear hv106_0 ge106_0
                                  clear hcc106 hce106
                                  have HR106_0 := Aside0.mk hi106_0
                                  have HC106_0 := Aside0.mk hl106_0
                                  clear hi106_0 hl106_0
                                  replace p106 := eq_true p106
                                  replace q106 := eq_true q106
                                  have p107 : 0 ≤ ((ji17) : Int) := of_decide_eq_true (by first | (with_reducible assumption) | assumption)
                                  have q107 : (ji17) < ((rd_L7 t103 x35_3).length : Int) := of_decide_eq_true (by first | (with_reducible assumption) | assumption)
                                  obtain ⟨ad107, e107, hx107_0⟩ := Kd.at_bool (by repeat (first | (with_reducible exact HR106_0.out) | (with_reducible refine Kd.C_alloc ?_ _) | (with_reducible refine Kd.C_drewN ?_ _) | (with_reducible refine Kd.C_drew ?_) | exact HR106_0.out)) (ji17) p107 q107
                                  (try rw [← Nbq20.out] at hx107_0)
                                  cases e107
                                  replace p107 := eq_true p107
                                  replace q107 := eq_true q107
                                  go_wp2_with (first | ((with_reducible refine gate_dst (N := 53) rfl ?_); refine Kd.R_lit (Kd.int .i64) _ 3 ?hg (N := 53) ?hd (xs := ([x9_1, x10_2, x35_3] : List Int)) (inner := [.int .i64 x9_1, .int .i64 x10_2, .int .i64 x35_3]) (ok := fun _ => True) (okp := fun _ => True) ?hr ?hp (fun _ hk => hk) trivial (Below.refl _ _) (Nat.le_refl _) (by simp) ?_; (case hd => rfl); (case hg => rfl); (case hr => first | (go_simp; done) | (go_simp; rfl)); (case hp => exact (Reps.one (show Kd.M (Kd.int .i64) _ _ _ x9_1 [.int .i64 x9_1] from rfl) (Reps.one (show Kd.M (Kd.int .i64) _ _ _ x10_2 [.int .i64 x10_2] from rfl) (Reps.one (show Kd.M (Kd.int .i64) _ _ _ x35_3 [.int .i64 x35_3] from rfl) (Reps.none _ _))))); intro v109 w23 ho24 hb hg_ hnew_; clear hg_ hnew_; (first | rw [← Ny108.out] at ho24 | (simp only [Int.reduceToNat] at ho24; rw [← Ny108.out] at ho24)); have n0_ := Aside0.mk (Kd.S_below (by (with_reducible repeat (first | apply Kd.S_alloc | apply Kd.S_drewN | apply Kd.S_drew)); exact HO_6.out) hb); have n1_ := Aside0.mk (Kd.S_elder' (by (with_reducible repeat (first | apply Kd.S_alloc | apply Kd.S_drewN | apply Kd.S_drew)); exact HO_8.out) (Kd.R_base ho24) hb); have n2_ := Aside0.mk (Kd.R_below (by (with_reducible repeat (first | apply Kd.R_alloc | apply Kd.R_drewN | apply Kd.R_drew)); exact HL106_0.out) hb); have n3_ := Aside0.mk (Kd.R_lower ho24 (below_size (by repeat (first | (with_reducible first | exact HB.out | apply below_alloc | apply pw_below_drewN | apply below_drew1 | refine below_set ?_ GE101.out) | exact HB.out)))); have n4_ := Aside0.mk (blk_below (g := gb101) (o := .cells #[.int .i64 a0_0, .int .i64 a0_1, .slice A0_2 l0_2.length c0_2] 28 (0, 0)) (by (with_reducible repeat (first | refine blk_drewN ?_ _ | refine blk_drew ?_ | refine blk_alloc ?_ _)); exact BK101.out) hb); have n5_ := Aside0.mk (Kd.C_below (by repeat (first | (with_reducible exact HR106_0.out) | (with_reducible refine Kd.C_alloc ?_ _) | (with_reducible refine Kd.C_drewN ?_ _) | (with_reducible refine Kd.C_drew ?_) | exact HR106_0.out)) hb); have n6_ := Aside0.mk (below_step (by repeat (first | (with_reducible first | exact HB.out | apply below_alloc | apply pw_below_drewN | apply below_drew1 | refine below_set ?_ GE101.out) | exact HB.out)) hb); clear HO_6; clear HO_8; clear HL106_0; clear BK101; clear HR106_0; clear HB; have HO_6 := n0_; have HO_8 := n1_; have HL106_0 := n2_; have HO110 := n3_; have BK101 := n4_; have HR106_0 := n5_; have HB := n6_; clear n0_ n1_ n2_ n3_ n4_ n5_ n6_; clear hb ho24; obtain ⟨Ao26, co26, eo26⟩ := Kd.R_slice HO110.out; subst eo26) | ((with_reducible refine gate_builtin (b := .append) (xs := #[.tmp 49, .tmp 54]) rfl ?_); at_builtin; refine Kd.S_append (Kd.slice 3 (Kd.int .i64)) (w0 := w) w.heap.size rfl (.tmp 49) (.tmp 54) 46 37 (.slice none 0 0) 24 rfl Try.underlying46 info37 rfl (by decide) (by omega) u8 x8_3 y108 [.slice Ao26 y108.length co26] (fun _ => True) (fun k_ => some k_ = (.slice Ao26 y108.length co26 : Value).ownBlock) rfl rfl ?aP (fun k_ hk_ => ((Kd.R_mono (ok' := fun k_ => ((fun _ => True)) k_ ∧ some k_ ≠ (u8 : Value).ownBlock) (Kd.R_apart' (HO110.out) (Kd.S_typed HO_8.out) (by decide)) (fun k_ hk => ⟨trivial, hk.2⟩))).1 k_ hk_.symm) ?aF ?aO ?aB ?aS ?aL ?_; (case aP => exact Kd.M_row (Kd.R_mono (Kd.R_tight rfl (Kd.R_mono (ok' := fun k_ => ((fun _ => True)) k_ ∧ some k_ ≠ (u8 : Value).ownBlock) (Kd.R_apart' (HO110.out) (Kd.S_typed HO_8.out) (by decide)) (fun k_ hk => ⟨trivial, hk.2⟩))) (fun _ h_ => h_))); (case aB => exact (by repeat (first | (with_reducible first | exact HB.out | apply below_alloc | apply pw_below_drewN | apply below_drew1 | refine below_set ?_ GE101.out) | exact HB.out))); (case aF => exact (fun _ _ => trivial)); (case aO => exact (by (with_reducible repeat (first | apply Kd.S_alloc | apply Kd.S_drewN | apply Kd.S_drew)); exact Kd.S_mono HO_8.out (fun k_ hk => ⟨trivial, fun e_ => hk.2 e_⟩))); (case aS => exact (below_size (by repeat (first | (with_reducible first | exact HB.out | apply below_alloc | apply pw_below_drewN | apply below_drew1 | refine below_set ?_ GE101.out) | exact HB.out)))); (case aL => have := LMc22.out; omega); intro v112 w25 ho hb hg hat; rw [← Ny111.out] at ho; have n0_ := Aside0.mk (Kd.S_over' (by (with_reducible repeat (first | apply Kd.S_alloc | apply Kd.S_drewN | apply Kd.S_drew)); exact HO_6.out) (Kd.S_typed (by (with_reducible repeat (first | apply Kd.S_alloc | apply Kd.S_drewN | apply Kd.S_drew)); exact HO_8.out)) (by decide) hg); have n1_ := Aside0.mk (blk_grown (g := gb101) (o := .cells #[.int .i64 a0_0, .int .i64 a0_1, .slice A0_2 l0_2.length c0_2] 28 (0, 0)) (by (with_reducible repeat (first | refine blk_drewN ?_ _ | refine blk_drew ?_ | refine blk_alloc ?_ _)); exact BK101.out) hg (Kd.S_ne HO_8.out BK101.out (by decide))); have n2_ := Aside0.mk (Kd.R_over' (by (with_reducible repeat (first | apply Kd.R_alloc | apply Kd.R_drewN | apply Kd.R_drew)); exact HL106_0.out) (Kd.S_typed (by (with_reducible repeat (first | apply Kd.S_alloc | apply Kd.S_drewN | apply Kd.S_drew)); exact HO_8.out)) (by decide) hg); have n3_ := Aside0.mk (hb); have n4_ := Aside0.mk (ho); clear HO_6; clear BK101; clear HL106_0; clear HB; clear HO_8; clear HO110; have HO_6 := n0_; have BK101 := n1_; have HL106_0 := n2_; have HB := n3_; have HO113 := n4_; clear n0_ n1_ n2_ n3_ n4_; clear ho hb hg hat))
                                  go_roundg k3
                                  case measure => have := HK1.out; have := HK2.out; have := HK3.out; omega
                                  case rel => exact ⟨(y111), (wrap64 (x35_3 + 1)), (by first | rfl | (simp; done) | (simp [*]; done)), H', ⟨by have := HK1.out; have := HK2.out; have := HK3.out; omega⟩, ⟨by (with_reducible repeat (first | apply Kd.S_alloc | apply Kd.S_drewN | apply Kd.S_drew)); exact HO_6.out⟩, ⟨by (with_reducible repeat (first | apply Kd.S_alloc | apply Kd.S_drewN | apply Kd.S_drew)); exact HO113.out⟩, ⟨by (with_reducible repeat (first | refine blk_drewN ?_ _ | refine blk_drew ?_ | refine blk_alloc ?_ _)); exact BK101.out⟩, ⟨by repeat (first | (with_reducible first | exact HB.out | apply below_alloc | apply pw_below_drewN | apply below_drew1 | refine below_set ?_ GE101.out) | exact HB.out)⟩⟩
                                · rw [if_neg c22] at H
                                  exact absurd H (by simp)
                              · replace c21 := Bool.eq_false_iff.mpr c21
                                subst c21
                                have H1 : (spec_SpansOf.l2 k3 t103 (wrap64 ((l1.length : Int) + 1)) x8_3 x9_1 x10_2 (t103.length : Int) (wrap64 (x35_3 + 1))) = some (r1, r2) := by rw [if_neg (show ¬ (false = true) by decide)] at H; exact H
                                clear H
                                have H := H1
                                clear H1
                                have H' := Aside0.mk H
                                clear H
                                have p106 : 0 ≤ (x35_3 : Int) := of_decide_eq_true (by first | (with_reducible assumption) | assumption)
                                have q106 : x35_3 < (t103.length : Int) := of_decide_eq_true (by first | (with_reducible assumption) | assumption)
                                obtain ⟨ad106, A106_0, c106_0, e106, hx106_0, hl106_0, hi106_0⟩ := at_L7 (Kd.S_reads' HO_6.out).2.2 x35_3 p106 q106
                                cases e106
                                obtain ⟨ce106, hce106, hMe106, hcc106⟩ := Kd.S_get HO_6.out [] x35_3 p106 (by first | exact q106 | exact of_decide_eq_true (by first | (with_reducible assumption) | assumption) | (have e_ := (Kd.S_reads' HO_6.out).1; omega))
                                obtain ⟨ve106_0, rfl, ge106_0⟩ := hMe106
                                have hv106_0 := hcc106 0 _ rfl
                                rw [Nat.add_zero, show ((Kd.slice 4 Kd.bool)).sz = 1 from rfl, Nat.mul_one] at hv106_0
                                replace hv106_0 := Option.some.inj (hv106_0.symm.trans hx106_0)
                                rw [hv106_0] at ge106_0
                                have HL106_0 := Aside0.mk (show Kd.R Kd.bool 4 _ _ _ _ (rd_L7 t103 x35_3) from ge106_0)
                                clear hv106_0 ge106_0
                                clear hcc106 hce106
                                have HR106_0 := Aside0.mk hi106_0
                                have HC106_0 := Aside0.mk hl106_0
                                clear hi106_0 hl106_0
                                replace p106 := eq_true p106
                                replace q106 := eq_true q106
                                have p107 : 0 ≤ ((ji17) : Int) := of_decide_eq_true (by first | (with_reducible assumption) | assumption)
                                have q107 : (ji17) < ((rd_L7 t103 x35_3).length : Int) := of_decide_eq_true (by first | (with_reducible assumption) | assumption)
                                obtain ⟨ad107, e107, hx107_0⟩ := Kd.at_bool (by repeat (first | (with_reducible exact HR106_0.out) | (with_reducible refine Kd.C_alloc ?_ _) | (with_reducible refine Kd.C_drewN ?_ _) | (with_reducible refine Kd.C_drew ?_) | exact HR106_0.out)) (ji17) p107 q107
                                (try rw [← Nbq20.out] at hx107_0)
                                cases e107
                                replace p107 := eq_true p107
                                replace q107 := eq_true q107
                                go_wp2
                                go_roundg k3
                                case measure => have := HK1.out; have := HK2.out; have := HK3.out; omega
                                case rel => exact ⟨(x8_3), (wrap64 (x35_3 + 1)), (by first | rfl | (simp; done) | (simp [*]; done)), H', ⟨by have := HK1.out; have := HK2.out; have := HK3.out; omega⟩, ⟨by (with_reducible repeat (first | apply Kd.S_alloc | apply Kd.S_drewN | apply Kd.S_drew)); exact HO_6.out⟩, ⟨by (with_reducible repeat (first | apply Kd.S_alloc | apply Kd.S_drewN | apply Kd.S_drew)); exact HO_8.out⟩, ⟨by (with_reducible repeat (first | refine blk_drewN ?_ _ | refine blk_drew ?_ | refine blk_alloc ?_ _)); exact BK101.out⟩, ⟨by repeat (first | (with_reducible first | exact HB.out | apply below_alloc | apply pw_below_drewN | apply below_drew1 | refine below_set ?_ GE101.out) | exact HB.out)⟩⟩
                            · rw [if_neg c19] at H
                              exact absurd H (by simp)
                          · rw [if_neg c18] at H
                            exact absurd H (by simp)
                        · rw [if_neg c16] at H
                          exact absurd H (by simp)
                      · rw [if_neg c15] at H
                        exact absurd H (by simp)
                    · rw [if_neg c14] at H
                      have c14b0 : decide (x35_3 < (t103.length : Int)) = false := decide_eq_false c14
                      clear c14
                      have H' := Aside0.mk H
                      clear H
                      go_wp2
                      go_roundg k3
                      case measure => have := HK1.out; have := HK2.out; have := HK3.out; omega
                      case rel => exact ⟨(x8_3), (wrap64 (x10_2 + 1)), (by first | rfl | (simp; done) | (simp [*]; done)), H', ⟨by have := HK1.out; have := HK2.out; have := HK3.out; omega⟩, ⟨by (with_reducible repeat (first | apply Kd.S_alloc | apply Kd.S_drewN | apply Kd.S_drew)); exact HO_6.out⟩, ⟨by (with_reducible repeat (first | apply Kd.S_alloc | apply Kd.S_drewN | apply Kd.S_drew)); exact HO_8.out⟩, ⟨by (with_reducible repeat (first | refine blk_drewN ?_ _ | refine blk_drew ?_ | refine blk_alloc ?_ _)); exact BK101.out⟩, ⟨by repeat (first | (with_reducible first | exact HB.out | apply below_alloc | apply pw_below_drewN | apply below_drew1 | refine below_set ?_ GE101.out) | exact HB.out)⟩⟩
              · rw [if_neg c12] at H
                have c12b0 : decide (x10_2 < (wrap64 ((l1.length : Int) + 1))) = false := decide_eq_false c12
                clear c12
                have H' := Aside0.mk H
                clear H
                go_wp2
                go_roundg k2
                case measure => have := HK1.out; have := HK2.out; omega
                case rel => exact ⟨(x8_2), (wrap64 (x9_1 + 1)), (by first | rfl | (simp; done) | (simp [*]; done)), H', ⟨by have := HK1.out; have := HK2.out; omega⟩, ⟨by (with_reducible repeat (first | apply Kd.S_alloc | apply Kd.S_drewN | apply Kd.S_drew)); exact HO_6.out⟩, ⟨by (with_reducible repeat (first | apply Kd.S_alloc | apply Kd.S_drewN | apply Kd.S_drew)); exact HO_8.out⟩, ⟨by (with_reducible repeat (first | refine blk_drewN ?_ _ | refine blk_drew ?_ | refine blk_alloc ?_ _)); exact BK101.out⟩, ⟨by repeat (first | (with_reducible first | exact HB.out | apply below_alloc | apply pw_below_drewN | apply below_drew1 | refine below_set ?_ GE101.out) | exact HB.out)⟩⟩
        · rw [if_neg c11] at H
          have c11b0 : decide (x9_1 < (wrap64 ((l1.length : Int) + 1))) = false := decide_eq_false c11
          clear c11
          simp only [Option.some.injEq, Prod.mk.injEq] at H
          obtain ⟨rfl, rfl⟩ := H
          go_wp2
          go_ret2
          exact ⟨_, by first | rfl | (simp [errW_none, errW_some] <;> rfl) | (simp [*, errW_none, errW_some] <;> rfl), by (with_reducible repeat (first | apply Kd.S_alloc | apply Kd.S_drewN | apply Kd.S_drew)); exact HO_8.out, by repeat (first | (with_reducible first | exact HB.out | apply below_alloc | apply pw_below_drewN | apply below_drew1 | refine below_set ?_ GE101.out) | exact HB.out)⟩
  · replace c4 := Bool.eq_false_iff.mpr c4
    subst c4
    have H1 : (some (([] : List (List Int)), false)) = some (r1, r2) := by rw [if_neg (show ¬ (false = true) by decide)] at H; exact H
    clear H
    have H := H1
    clear H1
    simp only [Option.some.injEq, Prod.mk.injEq] at H
    obtain ⟨rfl, rfl⟩ := H
    go_enter Try.func32, Try.ntmps32
    go_wp2_with (first | ((with_reducible refine gate_dst (N := 2) rfl ?_); refine box_event ?hg (N := 2) ?hd (cs := #[.int .i64 a0_0, .int .i64 a0_1, .slice A0_2 l0_2.length c0_2]) (t := 28) ?hr ?_; (case hd => rfl); (case hg => rfl); (case hr => first | (go_simp; done) | (go_simp; rfl)); intro gb101 hg w27 hbox hb; have n0_ := Aside0.mk (below_step (by repeat (first | (with_reducible first | exact HB.out | apply below_alloc | apply pw_below_drewN | apply below_drew1) | exact HB.out)) hb); have n1_ := Aside0.mk (hbox); have n2_ := Aside0.mk ((by rw [hg]; exact (below_size (by repeat (first | (with_reducible first | exact HB.out | apply below_alloc | apply pw_below_drewN | apply below_drew1) | exact HB.out))) : w.heap.size ≤ gb101)); have n3_ := Aside0.mk ((by rw [hg]; exact (below_size (by repeat (first | (with_reducible first | exact HB.out | apply below_alloc | apply pw_below_drewN | apply below_drew1) | exact HB.out))) : w.heap.size ≤ gb101)); clear HB; have HB := n0_; have BK101 := n1_; have GW101 := n2_; have GE101 := n3_; clear n0_ n1_ n2_ n3_; clear hb hbox hg; have hcz28_0 : w27.cell? ⟨gb101, 0, none⟩ = some (.int .i64 a0_0) := (blk_cell BK101.out 0).trans rfl; have hcz28_1 : w27.cell? ⟨gb101, 1, none⟩ = some (.int .i64 a0_1) := (blk_cell BK101.out 1).trans rfl; have hcz28_2 : w27.cell? ⟨gb101, 2, none⟩ = some (.slice A0_2 l0_2.length c0_2) := (blk_cell BK101.out 2).trans rfl; have hfz28_0 := blk_frozen BK101.out 0; have hfz28_1 := blk_frozen BK101.out 1; have hfz28_2 := blk_frozen BK101.out 2) | ((with_reducible refine gate_callee (f := 62) rfl ?_); refine goesL_ (some 14) rfl rfl Try.func62 (by kernel_rfl) rfl #[.agg #[.int .i64 a0_0, .int .i64 a0_1, .slice A0_2 l0_2.length c0_2], .slice A1 l1.length c1] rfl (by (try simp only [List.map_toArray, List.map_cons, List.map_nil]); first | done | rfl | (simp only [List.length_drop, List.length_take]; rfl)) ?_; (with_reducible refine (spec_GoodWord.calls k a0_0 a0_1 _ _ l0_2 _ _ l1 false _ ?side1 ?side2 ?side3 ?side4 A3.out).mono ?_); (case side1 => repeat (first | exact (Kd.C_below HR0_2.out HB.out) | (with_reducible refine Kd.C_alloc ?_ _) | (with_reducible refine Kd.C_drewN ?_ _) | (with_reducible refine Kd.C_drew ?_))); (case side2 => exact HC0_2.out); (case side3 => repeat (first | exact (Kd.C_below HR1.out HB.out) | (with_reducible refine Kd.C_alloc ?_ _) | (with_reducible refine Kd.C_drewN ?_ _) | (with_reducible refine Kd.C_drew ?_))); (case side4 => exact HC1.out); rintro e w29 ⟨rfl, hb⟩; refine ⟨_, rfl, ?_⟩; have n0_ := Aside0.mk (blk_below (g := gb101) (o := .cells #[.int .i64 a0_0, .int .i64 a0_1, .slice A0_2 l0_2.length c0_2] 28 (0, 0)) (by (with_reducible repeat (first | refine blk_drewN ?_ _ | refine blk_drew ?_ | refine blk_alloc ?_ _)); exact BK101.out) hb); have n1_ := Aside0.mk (below_step (by repeat (first | (with_reducible first | exact HB.out | apply below_alloc | apply pw_below_drewN | apply below_drew1 | refine below_set ?_ GE101.out) | exact HB.out)) hb); clear BK101; clear HB; have BK101 := n0_; have HB := n1_; clear n0_ n1_; (try clear hb); (try clear hb2); (try clear hk); (try clear hi)))
    go_ret2
    exact ⟨_, by first | rfl | (simp [errW_none, errW_some] <;> rfl) | (simp [*, errW_none, errW_some] <;> rfl), by first | exact Kd.S_nil _ _ _ _ _ | exact Kd.N_nil _ _ _ _ _ | exact Kd.V_nil _ _ _ _ _ | exact Kd.Q_nil _ _ _ _ _ | exact Kd.R_nil _ _ _ _ _, by repeat (first | (with_reducible first | exact HB.out | apply below_alloc | apply pw_below_drewN | apply below_drew1 | refine below_set ?_ GE101.out) | exact HB.out)⟩
end Go.Proofs.Ytekoclhnfhbmeaa.P
namespace Go.Proofs.Ytekoclhnfhbmeaa.P
open Go.RowKit Go.Proofs.YtekoclhnfhbmeaaW.PrintWords
set_option linter.unusedVariables false
set_option linter.unusedSimpArgs false
theorem spo_l2 (t : List Bool) (nons : Nat) (hn6 : nons ≤ 6) (len : Nat) (hl : len ≤ 10) (f z : Nat) (hf : f < len + 1) (hz : z < len + 1) (r : List (List Int) × Bool) : ∀ (m k : Nat) (o : List (List Int)), k + m = nons → o.length + m ≤ 1000 →
    Ev (fun j => spec_SpansOf.l1 j (tabOf nons (len + 1) t) ((len + 1 : Nat) : Int) (kL t f z m k o) f (wrap64 ((z : Int) + 1))) r →
    Ev (fun j => spec_SpansOf.l2 j (tabOf nons (len + 1) t) ((len + 1 : Nat) : Int) o f z nons k) r := by
  intro m
  induction m with
  | zero =>
    intro k o hk ho ⟨K, h⟩
    refine ⟨K + 1, fun j hj => ?_⟩
    dsimp only at h ⊢
    obtain ⟨j, rfl⟩ : ∃ m, j = m + 1 := ⟨j - 1, by omega⟩
    simp only [spec_SpansOf.l2]
    rw [if_neg (by omega)]
    exact h j (by omega)
  | succ m ih =>
    intro k o hk ho hE
    have i1 : (k : Int) < (nons : Int) := by omega
    have i2 : k < nons := by omega
    have i3 : (0 : Int) ≤ (k : Int) := by omega
    have hlt := fz_lt (n := len + 1) (f := f) (z := z) hf hz
    have i4 : o.length < 5864062014805 := by omega
    have i5 : (if tat t k f z = true then o ++ [[(f : Int), (z : Int), (k : Int)]] else o).length + m ≤ 1000 := by
      split
      · rw [List.length_append]; simp; omega
      · omega
    obtain ⟨K, h⟩ := ih (k + 1) _ (by omega) i5 hE
    refine ⟨K + 1, fun j hj => ?_⟩
    dsimp only at h ⊢
    obtain ⟨j, rfl⟩ : ∃ m, j = m + 1 := ⟨j - 1, by omega⟩
    have hN := h j (by omega)
    have e3 := idx_w f z (len + 1) (by omega) (by omega) (by omega)
    have e4 := wsucc1 k (Nat.lt_of_le_of_lt (show k ≤ 6 by omega) (by decide))
    simp only [spec_SpansOf.l2]
    rw [if_pos i1, if_pos i3, tabOf_len, if_pos i1, e3, if_pos (show (0 : Int) ≤ ((f * (len + 1) + z : Nat) : Int) from Int.natCast_nonneg _), tabOf_row _ _ _ _ i2, tabRow_len, if_pos (Int.ofNat_lt.mpr hlt), tabRow_at _ _ _ _ _ hf hz, e4]
    cases hv : tat t k f z with
    | true => rw [hv] at hN; rw [if_pos rfl, if_pos i4]; exact hN
    | false => rw [hv] at hN; rw [if_neg (by decide)]; exact hN
theorem kL_len (t f z) : ∀ (m k : Nat) (o : List (List Int)), (kL t f z m k o).length ≤ o.length + m := by
  intro m
  induction m with
  | zero => intro k o; exact Nat.le_refl _
  | succ m ih =>
    intro k o
    have := ih (k + 1) (if tat t k f z = true then o ++ [[(f : Int), (z : Int), (k : Int)]] else o)
    show (kL t f z m (k + 1) (if tat t k f z = true then o ++ [[(f : Int), (z : Int), (k : Int)]] else o)).length ≤ _
    have h2 : (if tat t k f z = true then o ++ [[(f : Int), (z : Int), (k : Int)]] else o).length ≤ o.length + 1 := by
      split
      · rw [List.length_append]; simp
      · omega
    omega
theorem spo_l1 (t : List Bool) (nons : Nat) (hn6 : nons ≤ 6) (len : Nat) (hl : len ≤ 10) (f : Nat) (hf : f < len + 1) (r : List (List Int) × Bool) : ∀ (m z : Nat) (o : List (List Int)), z + m = len + 1 → o.length + 6 * m ≤ 900 →
    Ev (fun j => spec_SpansOf.l0 j (tabOf nons (len + 1) t) ((len + 1 : Nat) : Int) (zL t nons f m z o) (wrap64 ((f : Int) + 1))) r →
    Ev (fun j => spec_SpansOf.l1 j (tabOf nons (len + 1) t) ((len + 1 : Nat) : Int) o f z) r := by
  intro m
  induction m with
  | zero =>
    intro z o hz ho ⟨K, h⟩
    refine ⟨K + 1, fun j hj => ?_⟩
    dsimp only at h ⊢
    obtain ⟨j, rfl⟩ : ∃ m, j = m + 1 := ⟨j - 1, by omega⟩
    simp only [spec_SpansOf.l1]
    rw [if_neg (by omega)]
    exact h j (by omega)
  | succ m ih =>
    intro z o hz ho hE
    have hk := kL_len t f z nons 0 o
    have hN := ih (z + 1) (kL t f z nons 0 o) (by omega) (by omega) hE
    have e4 := wsucc1 z (Nat.lt_of_le_of_lt (show z ≤ 10 by omega) (by decide))
    obtain ⟨K, h⟩ := spo_l2 t nons hn6 len hl f z hf (by omega) r nons 0 o (by omega) (by omega) (by rw [e4]; exact hN)
    refine ⟨K + 1, fun j hj => ?_⟩
    dsimp only at h ⊢
    obtain ⟨j, rfl⟩ : ∃ m, j = m + 1 := ⟨j - 1, by omega⟩
    simp only [spec_SpansOf.l1]
    rw [if_pos (by omega), tabOf_len]
    exact h j (by omega)
theorem zL_len (t nons f) (hn6 : nons ≤ 6) : ∀ (m z : Nat) (o : List (List Int)), (zL t nons f m z o).length ≤ o.length + 6 * m := by
  intro m
  induction m with
  | zero => intro z o; exact Nat.le_refl _
  | succ m ih =>
    intro z o
    have h1 := ih (z + 1) (kL t f z nons 0 o)
    have h2 := kL_len t f z nons 0 o
    show (zL t nons f m (z + 1) _).length ≤ _
    omega
theorem spo_l0 (t : List Bool) (nons : Nat) (hn6 : nons ≤ 6) (len : Nat) (hl : len ≤ 10) : ∀ (m f : Nat) (o : List (List Int)), f + m = len + 1 → o.length + 66 * m ≤ 800 →
    Ev (fun j => spec_SpansOf.l0 j (tabOf nons (len + 1) t) ((len + 1 : Nat) : Int) o f) (fL t nons len m f o, true) ∧ (fL t nons len m f o).length ≤ o.length + 66 * m := by
  intro m
  induction m with
  | zero =>
    intro f o hf ho
    refine ⟨⟨1, fun j hj => ?_⟩, Nat.le_refl _⟩
    dsimp only
    obtain ⟨j, rfl⟩ : ∃ m, j = m + 1 := ⟨j - 1, by omega⟩
    simp only [spec_SpansOf.l0]
    rw [if_neg (by omega)]; rfl
  | succ m ih =>
    intro f o hf ho
    have hz := zL_len t nons f hn6 (len + 1 - f) f o
    obtain ⟨hN, hL⟩ := ih (f + 1) (zL t nons f (len + 1 - f) f o) (by omega) (by omega)
    have e4 := wsucc1 f (Nat.lt_of_le_of_lt (show f ≤ 10 by omega) (by decide))
    obtain ⟨K, h⟩ := spo_l1 t nons hn6 len hl f (by omega) _ (len + 1 - f) f o (by omega) (by omega) (by rw [e4]; exact hN)
    refine ⟨⟨K + 1, fun j hj => ?_⟩, ?_⟩
    · dsimp only at h ⊢
      obtain ⟨j, rfl⟩ : ∃ m, j = m + 1 := ⟨j - 1, by omega⟩
      simp only [spec_SpansOf.l0]
      rw [if_pos (by omega)]
      exact h j (by omega)
    · show (fL t nons len m (f + 1) _).length ≤ _
      omega
theorem spansL_rows (t : List Bool) (nons len : Nat) : ∀ x, x ∈ spansL t nons len → x.length = 3 := by
  have hk : ∀ f z m k o, (∀ x, x ∈ o → x.length = 3) → ∀ x, x ∈ kL t f z m k o → x.length = 3 := by
    intro f z m
    induction m with
    | zero => intro k o h; exact h
    | succ m ih =>
      intro k o h
      refine ih (k + 1) _ ?_
      split
      · intro x hx
        rcases List.mem_append.1 hx with h1 | h1
        · exact h x h1
        · rw [List.mem_singleton.1 h1]; rfl
      · exact h
  have hz : ∀ f m z o, (∀ x, x ∈ o → x.length = 3) → ∀ x, x ∈ zL t nons f m z o → x.length = 3 := by
    intro f m
    induction m with
    | zero => intro z o h; exact h
    | succ m ih => intro z o h; exact ih (z + 1) _ (hk f z nons 0 o h)
  have hf : ∀ m f o, (∀ x, x ∈ o → x.length = 3) → ∀ x, x ∈ fL t nons len m f o → x.length = 3 := by
    intro m
    induction m with
    | zero => intro f o h; exact h
    | succ m ih => intro f o h; exact ih (f + 1) _ (hz f _ f o h)
  exact hf _ _ _ (fun x hx => by cases hx)
theorem pure_SpansOf (n t : Int) (g : List S87) (l : List Int) (hs : smallI g) (hb : l.length ≤ 1048576) :
    ∃ (r : List (List Int)) (q : Bool), (r.length ≤ 1000 ∧ ∀ x, x ∈ r → x.length ≤ 3) ∧ Ev (fun k => spec_SpansOf.f k n t g l) (r, q) ∧ impl_SpansOf.f n t g l = some (r, q) := by
  obtain ⟨K, h⟩ := spec_GoodWord_ev n t g l hs (by omega)
  dsimp only at h
  cases hg : goodG n t g with
  | true =>
    cases hw : wordB t l with
    | true =>
      obtain ⟨m, rfl⟩ := nat_of_good hg
      obtain ⟨h1, h6, h16, hok⟩ := goodG_okT hg
      have hl10 := word_len hw
      obtain ⟨K2, h2⟩ := l4Table_ev m h1 h6 l hl10 g h16 hok t
      obtain ⟨⟨K3, h3⟩, hL⟩ := spo_l0 (spansF l g) m h6 l.length hl10 (l.length + 1) 0 [] (by omega) (by simp; omega)
      dsimp only at h2 h3
      refine ⟨spansL (spansF l g) m l.length, true, ⟨by have : (spansL (spansF l g) m l.length).length ≤ 0 + 66 * (l.length + 1) := hL
                                                        omega, fun x hx => by rw [spansL_rows _ _ _ x hx]; omega⟩, ⟨K + K2 + K3, fun k hk => ?_⟩, ?_⟩
      · dsimp only
        have hN := h3 k (by omega)
        rw [show ((0 : Nat) : Int) = 0 from rfl] at hN
        unfold spec_SpansOf.f
        rw [h k (by omega), hg, hw]; simp only [Option.bind_some]
        rw [if_pos (by decide), h2 k (by omega)]; simp only [Option.bind_some]
        rw [show wrap64 ((l.length : Int) + 1) = ((l.length + 1 : Nat) : Int) from wsucc1 _ (Nat.lt_of_le_of_lt hl10 (by decide))]
        exact hN
      · unfold impl_SpansOf.f
        rw [if_pos hg, if_pos hw, Int.toNat_natCast]
    | false =>
      refine ⟨[], false, ⟨by simp, fun x hx => by cases hx⟩, ⟨K, fun k hk => ?_⟩, ?_⟩
      · dsimp only
        unfold spec_SpansOf.f
        rw [h k hk, hg, hw]; rfl
      · unfold impl_SpansOf.f
        rw [if_pos hg, hw]; rfl
  | false =>
    refine ⟨[], false, ⟨by simp, fun x hx => by cases hx⟩, ⟨K, fun k hk => ?_⟩, ?_⟩
    · dsimp only
      unfold spec_SpansOf.f
      rw [h k hk, hg]; rfl
    · unfold impl_SpansOf.f
      rw [hg]; rfl
end Go.Proofs.Ytekoclhnfhbmeaa.P
namespace Go.Proofs.Ytekoclhnfhbmeaa.P
open Go.RowKit Go.Proofs.YtekoclhnfhbmeaaW.PrintWords Go.Proofs.YtekoclhnfhbmeaaW.PrintLast Go.Proofs.YtekoclhnfhbmeaaW.PrintMore
set_option linter.unusedVariables false
set_option linter.unusedSimpArgs false
set_option maxHeartbeats 16000000 in
set_option maxRecDepth 100000 in
theorem holds_FnExactSpansOf (w : World) (a0_0 : Int) (a0_1 : Int) (A0_2 : Option Addr) (c0_2 : Nat) (l0_2 : List S98) (hr0_2 : Kd.C k98 w A0_2 l0_2.length l0_2) (hc0_2 : l0_2.length ≤ c0_2) (A1 : Option Addr) (c1 : Nat) (l1 : List Int) (hr1 : Kd.C (Kd.int .i64) w A1 l1.length l1) (hc1 : l1.length ≤ c1) :
    Calls Try.prog 8 #[.agg #[.int .i64 a0_0, .int .i64 a0_1, .slice A0_2 l0_2.length c0_2], .slice A1 l1.length c1] w fun e w' => e = .returned (.bool true) ∧ Below w.heap.size w w' := by
  have hu0 := Try.underlying24
  have hu1 := Try.underlying28
  have HB := Aside0.mk (Below.refl w.heap.size w)
  by_cases hL1 : l1.length ≤ 1048576
  rotate_left
  · have d1_ : decide ((1048576 : Int) < (l1.length : Int)) = true := decide_eq_true (by omega)
    have d2_ : decide (1048576 < l1.length) = true := decide_eq_true (by omega)
    clear hL1
    go_enter Try.func8, Try.ntmps8
    go_wp2
    go_ret
    exact ⟨rfl, by repeat (first | (with_reducible first | exact HB.out | apply below_alloc | apply pw_below_drewN | apply below_drew1) | exact HB.out)⟩
  have dA1 : decide ((1048576 : Int) < (l1.length : Int)) = false := decide_eq_false (by omega)
  have dB1 : decide (1048576 < l1.length) = false := decide_eq_false (by omega)
  obtain ⟨hq0, hw0⟩ := reads_small hr0_2
  obtain ⟨t0, hze0, htl0, hsm0⟩ := szGrammar_fr a0_0 a0_1 l0_2 hq0 hw0 1048576 (by omega) (by omega)
  obtain ⟨kz0, hz0⟩ := hze0.rounds
  try dsimp only at hz0
  by_cases hT0 : t0 < 0
  · have dt_ : decide (t0 < 0) = true := decide_eq_true hT0
    clear hT0
    go_enter Try.func8, Try.ntmps8
    go_wp2_with fail
    refine (laws_szGrammar.calls kz0 a0_0 a0_1 A0_2 c0_2 l0_2 1048576 t0 _ (Kd.C_below hr0_2 (by repeat (first | (with_reducible first | exact HB.out | apply below_alloc | apply pw_below_drewN | apply below_drew1) | exact HB.out))) hc0_2 hz0).mono ?_
    rintro e w0_ ⟨rfl, hb⟩
    have nB := Aside0.mk (below_step (by repeat (first | (with_reducible first | exact HB.out | apply below_alloc | apply pw_below_drewN | apply below_drew1) | exact HB.out)) hb)
    have BA0_ := Aside0.mk (blk_below (o := .cells #[.int .i64 a0_0, .int .i64 a0_1, .slice A0_2 l0_2.length c0_2] 24 (0, 0)) (heap_alloc_new w _) hb)
    clear HB hb
    have HB := nB
    clear nB
    go_wp2
    go_ret
    exact ⟨rfl, by repeat (first | (with_reducible first | exact HB.out | apply below_alloc | apply pw_below_drewN | apply below_drew1) | exact HB.out)⟩
  have dt0 : decide (t0 < 0) = false := decide_eq_false hT0
  have hs0 := hsm0 (by omega)
  obtain ⟨kt0, ht0⟩ := (toGrammar_ev a0_0 a0_1 l0_2 hs0).rounds
  obtain ⟨kt1, ht1⟩ := (toIntS_ev l1 (by omega)).rounds
  obtain ⟨r0, r1, hr0, es, hki⟩ := pure_SpansOf a0_0 a0_1 (convs l0_2) l1 (smallI_convs hs0) (by omega)
  obtain ⟨ks, hks⟩ := es.rounds
  obtain ⟨ke0, hke0⟩ := (eqIntSS_ev r0 (by have := hr0.1; omega) (fun i hi => by have := hr0.2 (rd_L1 r0 i) (by unfold rd_L1; rw [Int.toNat_natCast, List.getD_eq_getElem?_getD, List.getElem?_eq_getElem hi]; exact List.getElem_mem hi); omega)).rounds
  obtain ⟨kx0, hkx0⟩ := (eqGrammar_ev a0_0 a0_1 (convs l0_2) (smallI_convs hs0)).rounds
  obtain ⟨kx1, hkx1⟩ := (eqIntS_ev l1 (by omega)).rounds
  have bx0 := szR_bound (smallI_convs hs0)
  have bx1 : (l1.length : Int) ≤ 1048576 := by omega
  have br0 : (szRows r0 : Int) ≤ 1048576 := by have h1 := szRows_small r0 3 hr0.2; have h2 := hr0.1; omega
  have bl0 : r0.length ≤ 1000 := hr0.1
  try dsimp only at ht0 ht1 hks hke0 hkx0 hkx1
  clear es hr0
  clear hT0 hq0 hw0 hze0 hsm0 htl0
  have KEEP0 := Aside0.mk hs0
  clear hs0
  go_enter Try.func8, Try.ntmps8
  go_wp2_with fail
  refine (laws_szGrammar.calls kz0 a0_0 a0_1 A0_2 c0_2 l0_2 1048576 t0 _ (Kd.C_below hr0_2 (by repeat (first | (with_reducible first | exact HB.out | apply below_alloc | apply pw_below_drewN | apply below_drew1) | exact HB.out))) hc0_2 hz0).mono ?_
  rintro e w1 ⟨rfl, hb⟩
  have HSZ := Aside0.mk (show w.heap.size + 1 ≤ w1.heap.size by have h_ := hb.size; (try simp at h_); omega)
  have nB := Aside0.mk (below_step (by repeat (first | (with_reducible first | exact HB.out | apply below_alloc | apply pw_below_drewN | apply below_drew1) | exact HB.out)) hb)
  have nBA0 := Aside0.mk (blk_below (o := .cells #[.int .i64 a0_0, .int .i64 a0_1, .slice A0_2 l0_2.length c0_2] 24 (0, 0)) (heap_alloc_new w _) hb)
  clear HB
  have HB := nB
  have BA0 := nBA0
  clear nB nBA0
  have Z1 := HSZ
  clear HSZ
  have cBA0_0 : w1.cell? ⟨w.heap.size, 0, none⟩ = some (.int .i64 a0_0) := (blk_cell BA0.out 0).trans rfl
  have cBA0_1 : w1.cell? ⟨w.heap.size, 1, none⟩ = some (.int .i64 a0_1) := (blk_cell BA0.out 1).trans rfl
  have cBA0_2 : w1.cell? ⟨w.heap.size, 2, none⟩ = some (.slice A0_2 l0_2.length c0_2) := (blk_cell BA0.out 2).trans rfl
  go_wp2_with fail
  clear cBA0_0 cBA0_1 cBA0_2
  refine (laws_toGrammar.calls kt0 a0_0 a0_1 A0_2 c0_2 l0_2 a0_0 a0_1 (convs l0_2) _ (Kd.C_below hr0_2 (by repeat (first | (with_reducible first | exact HB.out | apply below_alloc | apply pw_below_drewN | apply below_drew1) | exact HB.out))) hc0_2 ht0).mono ?_
  rintro e w2 ⟨v0, rfl, ho0, hb⟩
  obtain ⟨A102_0, c102_0, ev_⟩ := Kd.S_slice ho0
  subst ev_
  have NO2_0 := Aside0.mk (Kd.S_mono (ok' := fun q_ => w1.heap.size + 0 ≤ q_ ∧ q_ < w2.heap.size) (Kd.S_lower (Kd.S_bound ho0) (below_size (by repeat (first | (with_reducible first | exact HB.out | apply below_alloc | apply pw_below_drewN | apply below_drew1) | exact HB.out)))) (fun q_ h_ => ⟨by have h2_ := h_.2.1; (try simp at h2_); omega, h_.2.2.1⟩))
  clear ho0
  have HSZ := Aside0.mk (show w1.heap.size + 0 ≤ w2.heap.size by have h_ := hb.size; (try simp at h_); omega)
  have nB := Aside0.mk (below_step (by repeat (first | (with_reducible first | exact HB.out | apply below_alloc | apply pw_below_drewN | apply below_drew1) | exact HB.out)) hb)
  have nBA0 := Aside0.mk (blk_below (g := w.heap.size) (o := .cells #[.int .i64 a0_0, .int .i64 a0_1, .slice A0_2 l0_2.length c0_2] 24 (0, 0)) (by (with_reducible repeat (first | refine blk_drewN ?_ _ | refine blk_drew ?_ | refine blk_alloc ?_ _)); exact BA0.out) hb)
  clear HB BA0
  have HB := nB
  have BA0 := nBA0
  clear nB nBA0
  have Z2 := HSZ
  clear HSZ
  have cBA0_0 : w2.cell? ⟨w.heap.size, 0, none⟩ = some (.int .i64 a0_0) := (blk_cell BA0.out 0).trans rfl
  have cBA0_1 : w2.cell? ⟨w.heap.size, 1, none⟩ = some (.int .i64 a0_1) := (blk_cell BA0.out 1).trans rfl
  have cBA0_2 : w2.cell? ⟨w.heap.size, 2, none⟩ = some (.slice A0_2 l0_2.length c0_2) := (blk_cell BA0.out 2).trans rfl
  have O2_0 := NO2_0
  clear NO2_0
  go_wp2_with fail
  clear cBA0_0 cBA0_1 cBA0_2
  refine (laws_toIntS.calls kt1 A1 c1 l1 l1 _ (Kd.C_below hr1 (by repeat (first | (with_reducible first | exact HB.out | apply below_alloc | apply pw_below_drewN | apply below_drew1) | exact HB.out))) hc1 ht1).mono ?_
  rintro e w3 ⟨v0, rfl, ho0, hb⟩
  obtain ⟨A103_0, c103_0, ev_⟩ := Kd.R_slice ho0
  subst ev_
  have NO3_0 := Aside0.mk (Kd.R_mono (ok' := fun q_ => w2.heap.size + 0 ≤ q_ ∧ q_ < w3.heap.size) (Kd.R_lower (Kd.R_bound ho0) (below_size (by repeat (first | (with_reducible first | exact HB.out | apply below_alloc | apply pw_below_drewN | apply below_drew1) | exact HB.out)))) (fun q_ h_ => ⟨by have h2_ := h_.2.1; (try simp at h2_); omega, h_.2.2.1⟩))
  clear ho0
  have HSZ := Aside0.mk (show w2.heap.size + 0 ≤ w3.heap.size by have h_ := hb.size; (try simp at h_); omega)
  have nB := Aside0.mk (below_step (by repeat (first | (with_reducible first | exact HB.out | apply below_alloc | apply pw_below_drewN | apply below_drew1) | exact HB.out)) hb)
  have nO2_0 := Aside0.mk (Kd.S_below (by (with_reducible repeat (first | apply Kd.S_alloc | apply Kd.S_drewN | apply Kd.S_drew)); exact O2_0.out) hb)
  have nBA0 := Aside0.mk (blk_below (g := w.heap.size) (o := .cells #[.int .i64 a0_0, .int .i64 a0_1, .slice A0_2 l0_2.length c0_2] 24 (0, 0)) (by (with_reducible repeat (first | refine blk_drewN ?_ _ | refine blk_drew ?_ | refine blk_alloc ?_ _)); exact BA0.out) hb)
  clear HB O2_0 BA0
  have HB := nB
  have O2_0 := nO2_0
  have BA0 := nBA0
  clear nB nO2_0 nBA0
  have Z3 := HSZ
  clear HSZ
  have cBA0_0 : w3.cell? ⟨w.heap.size, 0, none⟩ = some (.int .i64 a0_0) := (blk_cell BA0.out 0).trans rfl
  have cBA0_1 : w3.cell? ⟨w.heap.size, 1, none⟩ = some (.int .i64 a0_1) := (blk_cell BA0.out 1).trans rfl
  have cBA0_2 : w3.cell? ⟨w.heap.size, 2, none⟩ = some (.slice A0_2 l0_2.length c0_2) := (blk_cell BA0.out 2).trans rfl
  have O3_0 := NO3_0
  clear NO3_0
  go_wp2_with fail
  clear cBA0_0 cBA0_1 cBA0_2
  refine (spec_SpansOf.calls ks a0_0 a0_1 _ _ (convs l0_2) _ _ l1 r0 r1 _ (Kd.S_reads' (by (with_reducible repeat (first | apply Kd.S_alloc | apply Kd.S_drewN | apply Kd.S_drew)); exact O2_0.out)).2.2 (Kd.S_reads' O2_0.out).2.1 (Kd.R_reads' (by (with_reducible repeat (first | apply Kd.R_alloc | apply Kd.R_drewN | apply Kd.R_drew)); exact O3_0.out)).2.2 (Kd.R_reads' O3_0.out).2.1 hks).mono ?_
  rintro e w4 ⟨v0, rfl, ho0, hb⟩
  obtain ⟨A104_0, c104_0, ev_⟩ := Kd.S_slice ho0
  subst ev_
  have NO4_0 := Aside0.mk (Kd.S_mono (ok' := fun q_ => w3.heap.size + 0 ≤ q_ ∧ q_ < w4.heap.size) (Kd.S_lower (Kd.S_bound ho0) (below_size (by repeat (first | (with_reducible first | exact HB.out | apply below_alloc | apply pw_below_drewN | apply below_drew1) | exact HB.out)))) (fun q_ h_ => ⟨by have h2_ := h_.2.1; (try simp at h2_); omega, h_.2.2.1⟩))
  clear ho0
  have HSZ := Aside0.mk (show w3.heap.size + 0 ≤ w4.heap.size by have h_ := hb.size; (try simp at h_); omega)
  have nB := Aside0.mk (below_step (by repeat (first | (with_reducible first | exact HB.out | apply below_alloc | apply pw_below_drewN | apply below_drew1) | exact HB.out)) hb)
  have nO2_0 := Aside0.mk (Kd.S_below (by (with_reducible repeat (first | apply Kd.S_alloc | apply Kd.S_drewN | apply Kd.S_drew)); exact O2_0.out) hb)
  have nO3_0 := Aside0.mk (Kd.R_below (by (with_reducible repeat (first | apply Kd.R_alloc | apply Kd.R_drewN | apply Kd.R_drew)); exact O3_0.out) hb)
  have nBA0 := Aside0.mk (blk_below (g := w.heap.size) (o := .cells #[.int .i64 a0_0, .int .i64 a0_1, .slice A0_2 l0_2.length c0_2] 24 (0, 0)) (by (with_reducible repeat (first | refine blk_drewN ?_ _ | refine blk_drew ?_ | refine blk_alloc ?_ _)); exact BA0.out) hb)
  clear HB O2_0 O3_0 BA0
  have HB := nB
  have O2_0 := nO2_0
  have O3_0 := nO3_0
  have BA0 := nBA0
  clear nB nO2_0 nO3_0 nBA0
  have Z4 := HSZ
  clear HSZ
  have cBA0_0 : w4.cell? ⟨w.heap.size, 0, none⟩ = some (.int .i64 a0_0) := (blk_cell BA0.out 0).trans rfl
  have cBA0_1 : w4.cell? ⟨w.heap.size, 1, none⟩ = some (.int .i64 a0_1) := (blk_cell BA0.out 1).trans rfl
  have cBA0_2 : w4.cell? ⟨w.heap.size, 2, none⟩ = some (.slice A0_2 l0_2.length c0_2) := (blk_cell BA0.out 2).trans rfl
  have O4_0 := NO4_0
  clear NO4_0
  go_wp2_with fail
  clear cBA0_0 cBA0_1 cBA0_2
  refine (laws_toGrammar.calls kt0 a0_0 a0_1 A0_2 c0_2 l0_2 a0_0 a0_1 (convs l0_2) _ (Kd.C_below hr0_2 (by repeat (first | (with_reducible first | exact HB.out | apply below_alloc | apply pw_below_drewN | apply below_drew1) | exact HB.out))) hc0_2 ht0).mono ?_
  rintro e w5 ⟨v0, rfl, ho0, hb⟩
  obtain ⟨A105_0, c105_0, ev_⟩ := Kd.S_slice ho0
  subst ev_
  have NO5_0 := Aside0.mk (Kd.S_mono (ok' := fun q_ => w4.heap.size + 0 ≤ q_ ∧ q_ < w5.heap.size) (Kd.S_lower (Kd.S_bound ho0) (below_size (by repeat (first | (with_reducible first | exact HB.out | apply below_alloc | apply pw_below_drewN | apply below_drew1) | exact HB.out)))) (fun q_ h_ => ⟨by have h2_ := h_.2.1; (try simp at h2_); omega, h_.2.2.1⟩))
  clear ho0
  have HSZ := Aside0.mk (show w4.heap.size + 0 ≤ w5.heap.size by have h_ := hb.size; (try simp at h_); omega)
  have nB := Aside0.mk (below_step (by repeat (first | (with_reducible first | exact HB.out | apply below_alloc | apply pw_below_drewN | apply below_drew1) | exact HB.out)) hb)
  have nO4_0 := Aside0.mk (Kd.S_below (by (with_reducible repeat (first | apply Kd.S_alloc | apply Kd.S_drewN | apply Kd.S_drew)); exact O4_0.out) hb)
  have nBA0 := Aside0.mk (blk_below (g := w.heap.size) (o := .cells #[.int .i64 a0_0, .int .i64 a0_1, .slice A0_2 l0_2.length c0_2] 24 (0, 0)) (by (with_reducible repeat (first | refine blk_drewN ?_ _ | refine blk_drew ?_ | refine blk_alloc ?_ _)); exact BA0.out) hb)
  clear HB O4_0 BA0
  have HB := nB
  have O4_0 := nO4_0
  have BA0 := nBA0
  clear nB nO4_0 nBA0
  have Z5 := HSZ
  clear HSZ
  have cBA0_0 : w5.cell? ⟨w.heap.size, 0, none⟩ = some (.int .i64 a0_0) := (blk_cell BA0.out 0).trans rfl
  have cBA0_1 : w5.cell? ⟨w.heap.size, 1, none⟩ = some (.int .i64 a0_1) := (blk_cell BA0.out 1).trans rfl
  have cBA0_2 : w5.cell? ⟨w.heap.size, 2, none⟩ = some (.slice A0_2 l0_2.length c0_2) := (blk_cell BA0.out 2).trans rfl
  have O5_0 := NO5_0
  clear NO5_0
  go_wp2_with fail
  clear cBA0_0 cBA0_1 cBA0_2
  refine (laws_toIntS.calls kt1 A1 c1 l1 l1 (w5.alloc (.cells #[.int .i64 a0_0, .int .i64 a0_1, .slice A105_0 (convs l0_2).length c105_0] 28 (0, 0))) (Kd.C_below hr1 (by repeat (first | (with_reducible first | exact HB.out | apply below_alloc | apply pw_below_drewN | apply below_drew1) | exact HB.out))) hc1 ht1).mono ?_
  rintro e w6 ⟨v0, rfl, ho0, hb⟩
  obtain ⟨A106_0, c106_0, ev_⟩ := Kd.R_slice ho0
  subst ev_
  have NO6_0 := Aside0.mk (Kd.R_mono (ok' := fun q_ => w5.heap.size + 1 ≤ q_ ∧ q_ < w6.heap.size) (Kd.R_lower (Kd.R_bound ho0) (below_size (by repeat (first | (with_reducible first | exact HB.out | apply below_alloc | apply pw_below_drewN | apply below_drew1) | exact HB.out)))) (fun q_ h_ => ⟨by have h2_ := h_.2.1; (try simp at h2_); omega, h_.2.2.1⟩))
  clear ho0
  have HSZ := Aside0.mk (show w5.heap.size + 1 ≤ w6.heap.size by have h_ := hb.size; (try simp at h_); omega)
  have nB := Aside0.mk (below_step (by repeat (first | (with_reducible first | exact HB.out | apply below_alloc | apply pw_below_drewN | apply below_drew1) | exact HB.out)) hb)
  have nO4_0 := Aside0.mk (Kd.S_below (by (with_reducible repeat (first | apply Kd.S_alloc | apply Kd.S_drewN | apply Kd.S_drew)); exact O4_0.out) hb)
  have nO5_0 := Aside0.mk (Kd.S_below (by (with_reducible repeat (first | apply Kd.S_alloc | apply Kd.S_drewN | apply Kd.S_drew)); exact O5_0.out) hb)
  have nBA0 := Aside0.mk (blk_below (g := w.heap.size) (o := .cells #[.int .i64 a0_0, .int .i64 a0_1, .slice A0_2 l0_2.length c0_2] 24 (0, 0)) (by (with_reducible repeat (first | refine blk_drewN ?_ _ | refine blk_drew ?_ | refine blk_alloc ?_ _)); exact BA0.out) hb)
  have nBX0 := Aside0.mk (blk_below (o := .cells #[.int .i64 a0_0, .int .i64 a0_1, .slice A105_0 (convs l0_2).length c105_0] 28 (0, 0)) (heap_alloc_new w5 _) hb)
  clear HB O4_0 O5_0 BA0
  have HB := nB
  have O4_0 := nO4_0
  have O5_0 := nO5_0
  have BA0 := nBA0
  have BX0 := nBX0
  clear nB nO4_0 nO5_0 nBA0 nBX0
  have Z6 := HSZ
  clear HSZ
  have cBA0_0 : w6.cell? ⟨w.heap.size, 0, none⟩ = some (.int .i64 a0_0) := (blk_cell BA0.out 0).trans rfl
  have cBA0_1 : w6.cell? ⟨w.heap.size, 1, none⟩ = some (.int .i64 a0_1) := (blk_cell BA0.out 1).trans rfl
  have cBA0_2 : w6.cell? ⟨w.heap.size, 2, none⟩ = some (.slice A0_2 l0_2.length c0_2) := (blk_cell BA0.out 2).trans rfl
  have cBX0_0 : w6.cell? ⟨w5.heap.size, 0, none⟩ = some (.int .i64 a0_0) := (blk_cell BX0.out 0).trans rfl
  have cBX0_1 : w6.cell? ⟨w5.heap.size, 1, none⟩ = some (.int .i64 a0_1) := (blk_cell BX0.out 1).trans rfl
  have cBX0_2 : w6.cell? ⟨w5.heap.size, 2, none⟩ = some (.slice A105_0 (convs l0_2).length c105_0) := (blk_cell BX0.out 2).trans rfl
  have O6_0 := NO6_0
  clear NO6_0
  go_wp2_with fail
  clear cBA0_0 cBA0_1 cBA0_2 cBX0_0 cBX0_1 cBX0_2
  refine (impl_SpansOf.calls a0_0 a0_1 _ _ (convs l0_2) _ _ l1 r0 r1 _ (Kd.S_reads' (by (with_reducible repeat (first | apply Kd.S_alloc | apply Kd.S_drewN | apply Kd.S_drew)); exact O5_0.out)).2.2 (Kd.S_reads' O5_0.out).2.1 (Kd.R_reads' (by (with_reducible repeat (first | apply Kd.R_alloc | apply Kd.R_drewN | apply Kd.R_drew)); exact O6_0.out)).2.2 (Kd.R_reads' O6_0.out).2.1 hki).mono ?_
  rintro e w7 ⟨v0, rfl, ho0, hb⟩
  obtain ⟨A107_0, c107_0, ev_⟩ := Kd.S_slice ho0
  subst ev_
  have NO7_0 := Aside0.mk (Kd.S_mono (ok' := fun q_ => w6.heap.size + 0 ≤ q_ ∧ q_ < w7.heap.size) (Kd.S_lower (Kd.S_bound ho0) (below_size (by repeat (first | (with_reducible first | exact HB.out | apply below_alloc | apply pw_below_drewN | apply below_drew1) | exact HB.out)))) (fun q_ h_ => ⟨by have h2_ := h_.2.1; (try simp at h2_); omega, h_.2.2.1⟩))
  clear ho0
  have HSZ := Aside0.mk (show w6.heap.size + 0 ≤ w7.heap.size by have h_ := hb.size; (try simp at h_); omega)
  have nB := Aside0.mk (below_step (by repeat (first | (with_reducible first | exact HB.out | apply below_alloc | apply pw_below_drewN | apply below_drew1) | exact HB.out)) hb)
  have nO4_0 := Aside0.mk (Kd.S_below (by (with_reducible repeat (first | apply Kd.S_alloc | apply Kd.S_drewN | apply Kd.S_drew)); exact O4_0.out) hb)
  have nO5_0 := Aside0.mk (Kd.S_below (by (with_reducible repeat (first | apply Kd.S_alloc | apply Kd.S_drewN | apply Kd.S_drew)); exact O5_0.out) hb)
  have nO6_0 := Aside0.mk (Kd.R_below (by (with_reducible repeat (first | apply Kd.R_alloc | apply Kd.R_drewN | apply Kd.R_drew)); exact O6_0.out) hb)
  have nBA0 := Aside0.mk (blk_below (g := w.heap.size) (o := .cells #[.int .i64 a0_0, .int .i64 a0_1, .slice A0_2 l0_2.length c0_2] 24 (0, 0)) (by (with_reducible repeat (first | refine blk_drewN ?_ _ | refine blk_drew ?_ | refine blk_alloc ?_ _)); exact BA0.out) hb)
  have nBX0 := Aside0.mk (blk_below (g := w5.heap.size) (o := .cells #[.int .i64 a0_0, .int .i64 a0_1, .slice A105_0 (convs l0_2).length c105_0] 28 (0, 0)) (by (with_reducible repeat (first | refine blk_drewN ?_ _ | refine blk_drew ?_ | refine blk_alloc ?_ _)); exact BX0.out) hb)
  clear HB O4_0 O5_0 O6_0 BA0 BX0
  have HB := nB
  have O4_0 := nO4_0
  have O5_0 := nO5_0
  have O6_0 := nO6_0
  have BA0 := nBA0
  have BX0 := nBX0
  clear nB nO4_0 nO5_0 nO6_0 nBA0 nBX0
  have Z7 := HSZ
  clear HSZ
  have cBA0_0 : w7.cell? ⟨w.heap.size, 0, none⟩ = some (.int .i64 a0_0) := (blk_cell BA0.out 0).trans rfl
  have cBA0_1 : w7.cell? ⟨w.heap.size, 1, none⟩ = some (.int .i64 a0_1) := (blk_cell BA0.out 1).trans rfl
  have cBA0_2 : w7.cell? ⟨w.heap.size, 2, none⟩ = some (.slice A0_2 l0_2.length c0_2) := (blk_cell BA0.out 2).trans rfl
  have cBX0_0 : w7.cell? ⟨w5.heap.size, 0, none⟩ = some (.int .i64 a0_0) := (blk_cell BX0.out 0).trans rfl
  have cBX0_1 : w7.cell? ⟨w5.heap.size, 1, none⟩ = some (.int .i64 a0_1) := (blk_cell BX0.out 1).trans rfl
  have cBX0_2 : w7.cell? ⟨w5.heap.size, 2, none⟩ = some (.slice A105_0 (convs l0_2).length c105_0) := (blk_cell BX0.out 2).trans rfl
  have O7_0 := NO7_0
  clear NO7_0
  go_wp2_with fail
  clear cBA0_0 cBA0_1 cBA0_2 cBX0_0 cBX0_1 cBX0_2
  refine (laws_eqIntSS.calls ke0 _ _ r0 _ _ r0 true _ (Kd.S_reads' (by (with_reducible repeat (first | apply Kd.S_alloc | apply Kd.S_drewN | apply Kd.S_drew)); exact O7_0.out)).2.2 (Kd.S_reads' O7_0.out).2.1 (Kd.S_reads' (by (with_reducible repeat (first | apply Kd.S_alloc | apply Kd.S_drewN | apply Kd.S_drew)); exact O4_0.out)).2.2 (Kd.S_reads' O4_0.out).2.1 hke0).mono ?_
  rintro e w8 ⟨rfl, hd⟩
  have hb := drawn_below hd
  clear hd
  have HSZ := Aside0.mk (show w7.heap.size + 0 ≤ w8.heap.size by have h_ := hb.size; (try simp at h_); omega)
  have nB := Aside0.mk (below_step (by repeat (first | (with_reducible first | exact HB.out | apply below_alloc | apply pw_below_drewN | apply below_drew1) | exact HB.out)) hb)
  have nO4_0 := Aside0.mk (Kd.S_below (by (with_reducible repeat (first | apply Kd.S_alloc | apply Kd.S_drewN | apply Kd.S_drew)); exact O4_0.out) hb)
  have nO5_0 := Aside0.mk (Kd.S_below (by (with_reducible repeat (first | apply Kd.S_alloc | apply Kd.S_drewN | apply Kd.S_drew)); exact O5_0.out) hb)
  have nO6_0 := Aside0.mk (Kd.R_below (by (with_reducible repeat (first | apply Kd.R_alloc | apply Kd.R_drewN | apply Kd.R_drew)); exact O6_0.out) hb)
  have nO7_0 := Aside0.mk (Kd.S_below (by (with_reducible repeat (first | apply Kd.S_alloc | apply Kd.S_drewN | apply Kd.S_drew)); exact O7_0.out) hb)
  have nBA0 := Aside0.mk (blk_below (g := w.heap.size) (o := .cells #[.int .i64 a0_0, .int .i64 a0_1, .slice A0_2 l0_2.length c0_2] 24 (0, 0)) (by (with_reducible repeat (first | refine blk_drewN ?_ _ | refine blk_drew ?_ | refine blk_alloc ?_ _)); exact BA0.out) hb)
  have nBX0 := Aside0.mk (blk_below (g := w5.heap.size) (o := .cells #[.int .i64 a0_0, .int .i64 a0_1, .slice A105_0 (convs l0_2).length c105_0] 28 (0, 0)) (by (with_reducible repeat (first | refine blk_drewN ?_ _ | refine blk_drew ?_ | refine blk_alloc ?_ _)); exact BX0.out) hb)
  clear HB O4_0 O5_0 O6_0 O7_0 BA0 BX0
  have HB := nB
  have O4_0 := nO4_0
  have O5_0 := nO5_0
  have O6_0 := nO6_0
  have O7_0 := nO7_0
  have BA0 := nBA0
  have BX0 := nBX0
  clear nB nO4_0 nO5_0 nO6_0 nO7_0 nBA0 nBX0
  have Z8 := HSZ
  clear HSZ
  have cBA0_0 : w8.cell? ⟨w.heap.size, 0, none⟩ = some (.int .i64 a0_0) := (blk_cell BA0.out 0).trans rfl
  have cBA0_1 : w8.cell? ⟨w.heap.size, 1, none⟩ = some (.int .i64 a0_1) := (blk_cell BA0.out 1).trans rfl
  have cBA0_2 : w8.cell? ⟨w.heap.size, 2, none⟩ = some (.slice A0_2 l0_2.length c0_2) := (blk_cell BA0.out 2).trans rfl
  have cBX0_0 : w8.cell? ⟨w5.heap.size, 0, none⟩ = some (.int .i64 a0_0) := (blk_cell BX0.out 0).trans rfl
  have cBX0_1 : w8.cell? ⟨w5.heap.size, 1, none⟩ = some (.int .i64 a0_1) := (blk_cell BX0.out 1).trans rfl
  have cBX0_2 : w8.cell? ⟨w5.heap.size, 2, none⟩ = some (.slice A105_0 (convs l0_2).length c105_0) := (blk_cell BX0.out 2).trans rfl
  go_wp2_with fail
  have nO4_0 := Aside0.mk (Kd.S_drew O4_0.out)
  have nO5_0 := Aside0.mk (Kd.S_drew O5_0.out)
  have nO6_0 := Aside0.mk (Kd.R_drew O6_0.out)
  have nO7_0 := Aside0.mk (Kd.S_drew O7_0.out)
  have nBA0 := Aside0.mk (blk_drew BA0.out)
  have nBX0 := Aside0.mk (blk_drew BX0.out)
  have nB := Aside0.mk (below_drew1 HB.out)
  have HSZ := Aside0.mk (show w8.heap.size + 0 ≤ w8.drew.heap.size from Nat.le_refl _)
  clear cBA0_0 cBA0_1 cBA0_2 cBX0_0 cBX0_1 cBX0_2
  clear HB O4_0 O5_0 O6_0 O7_0 BA0 BX0
  have HB := nB
  have O4_0 := nO4_0
  have O5_0 := nO5_0
  have O6_0 := nO6_0
  have O7_0 := nO7_0
  have BA0 := nBA0
  have BX0 := nBX0
  clear nB nO4_0 nO5_0 nO6_0 nO7_0 nBA0 nBX0
  refine start_ (n := 5) (S := fun w' => w'.cell? ⟨w5.heap.size, 0, none⟩ = some (.int .i64 a0_0) ∧ w'.cell? ⟨w5.heap.size, 1, none⟩ = some (.int .i64 a0_1) ∧ w'.cell? ⟨w5.heap.size, 2, none⟩ = some (.slice A105_0 (convs l0_2).length c105_0) ∧ w'.cell? ⟨w.heap.size, 0, none⟩ = some (.int .i64 a0_0) ∧ w'.cell? ⟨w.heap.size, 1, none⟩ = some (.int .i64 a0_1) ∧ w'.cell? ⟨w.heap.size, 2, none⟩ = some (.slice A0_2 l0_2.length c0_2)) (ds := []) #[false, false, false, false, false] (by kernel_rfl) rfl rfl ⟨(blk_cell BX0.out 0).trans rfl, (blk_cell BX0.out 1).trans rfl, (blk_cell BX0.out 2).trans rfl, (blk_cell BA0.out 0).trans rfl, (blk_cell BA0.out 1).trans rfl, (blk_cell BA0.out 2).trans rfl⟩ (fun hHeld => ?_)
  generalize w8.drew = w9 at O4_0 O5_0 O6_0 O7_0 BA0 BX0 HB HSZ hHeld ⊢
  have Z9 := HSZ
  clear HSZ
  refine take_ (i := 0) (v := ?_) (a' := ?_) #[true, false, false, false, false] rfl rfl (by kernel_rfl) (fun _ _ _ h => h) (Or.inl ⟨by rfl, ?_⟩) hHeld ?_ ?_
  rotate_left
  · rintro w' ⟨s0, s1, s2, s3, s4, s5⟩
    go_simp
    with_reducible rfl
  rotate_left
  · simp only [Act.put, List.setIfInBounds_toArray, List.set_cons_zero, List.set_cons_succ, i64_w, i32_w]
    rfl
  refine take_ (i := 1) (v := ?_) (a' := ?_) #[true, true, false, false, false] rfl rfl (by kernel_rfl) (fun _ _ _ h => h) (Or.inl ⟨by rfl, ?_⟩) hHeld ?_ ?_
  rotate_left
  · rintro w' ⟨s0, s1, s2, s3, s4, s5⟩
    go_simp
    with_reducible rfl
  rotate_left
  · simp only [Act.put, List.setIfInBounds_toArray, List.set_cons_zero, List.set_cons_succ, i64_w, i32_w]
    rfl
  refine one_ (i := 2) #[true, true, true, false, false] rfl rfl (by kernel_rfl) (by decide) (fun K hK => ?_)
  refine goes_ Try.func17 (by kernel_rfl) rfl #[.agg #[.int .i64 a0_0, .int .i64 a0_1, .slice A0_2 l0_2.length c0_2]] (by rfl) rfl rfl (by first | rfl | ((try simp only [List.map_toArray, List.map_cons, List.map_nil]); first | done | rfl)) ?_
  with_reducible refine (laws_toGrammar.calls kt0 a0_0 a0_1 A0_2 c0_2 l0_2 a0_0 a0_1 (convs l0_2) _ (Kd.C_below hr0_2 (by repeat (first | (with_reducible first | exact HB.out | apply below_alloc | apply pw_below_drewN | apply below_drew1) | exact HB.out))) hc0_2 ht0).mono ?_
  rintro e w10 ⟨v0, rfl, ho0, hb⟩
  refine ⟨_, rfl, ?_⟩
  obtain ⟨A110_0, c110_0, ev_⟩ := Kd.S_slice ho0
  subst ev_
  have NO10_0 := Aside0.mk (Kd.S_mono (ok' := fun q_ => w9.heap.size + 0 ≤ q_ ∧ q_ < w10.heap.size) (Kd.S_lower (Kd.S_bound ho0) (below_size (by repeat (first | (with_reducible first | exact HB.out | apply below_alloc | apply pw_below_drewN | apply below_drew1) | exact HB.out)))) (fun q_ h_ => ⟨by have h2_ := h_.2.1; (try simp at h2_); omega, h_.2.2.1⟩))
  clear ho0
  have HSZ := Aside0.mk (show w9.heap.size + 0 ≤ w10.heap.size by have h_ := hb.size; (try simp at h_); omega)
  have nB := Aside0.mk (below_step (by repeat (first | (with_reducible first | exact HB.out | apply below_alloc | apply pw_below_drewN | apply below_drew1) | exact HB.out)) hb)
  have nO4_0 := Aside0.mk (Kd.S_below (by (with_reducible repeat (first | apply Kd.S_alloc | apply Kd.S_drewN | apply Kd.S_drew)); exact O4_0.out) hb)
  have nO5_0 := Aside0.mk (Kd.S_below (by (with_reducible repeat (first | apply Kd.S_alloc | apply Kd.S_drewN | apply Kd.S_drew)); exact O5_0.out) hb)
  have nO6_0 := Aside0.mk (Kd.R_below (by (with_reducible repeat (first | apply Kd.R_alloc | apply Kd.R_drewN | apply Kd.R_drew)); exact O6_0.out) hb)
  have nO7_0 := Aside0.mk (Kd.S_below (by (with_reducible repeat (first | apply Kd.S_alloc | apply Kd.S_drewN | apply Kd.S_drew)); exact O7_0.out) hb)
  have nBA0 := Aside0.mk (blk_below (g := w.heap.size) (o := .cells #[.int .i64 a0_0, .int .i64 a0_1, .slice A0_2 l0_2.length c0_2] 24 (0, 0)) (by (with_reducible repeat (first | refine blk_drewN ?_ _ | refine blk_drew ?_ | refine blk_alloc ?_ _)); exact BA0.out) hb)
  have nBX0 := Aside0.mk (blk_below (g := w5.heap.size) (o := .cells #[.int .i64 a0_0, .int .i64 a0_1, .slice A105_0 (convs l0_2).length c105_0] 28 (0, 0)) (by (with_reducible repeat (first | refine blk_drewN ?_ _ | refine blk_drew ?_ | refine blk_alloc ?_ _)); exact BX0.out) hb)
  clear HB O4_0 O5_0 O6_0 O7_0 BA0 BX0
  have HB := nB
  have O4_0 := nO4_0
  have O5_0 := nO5_0
  have O6_0 := nO6_0
  have O7_0 := nO7_0
  have BA0 := nBA0
  have BX0 := nBX0
  clear nB nO4_0 nO5_0 nO6_0 nO7_0 nBA0 nBX0
  have Z10 := HSZ
  clear HSZ
  have cBA0_0 : w10.cell? ⟨w.heap.size, 0, none⟩ = some (.int .i64 a0_0) := (blk_cell BA0.out 0).trans rfl
  have cBA0_1 : w10.cell? ⟨w.heap.size, 1, none⟩ = some (.int .i64 a0_1) := (blk_cell BA0.out 1).trans rfl
  have cBA0_2 : w10.cell? ⟨w.heap.size, 2, none⟩ = some (.slice A0_2 l0_2.length c0_2) := (blk_cell BA0.out 2).trans rfl
  have cBX0_0 : w10.cell? ⟨w5.heap.size, 0, none⟩ = some (.int .i64 a0_0) := (blk_cell BX0.out 0).trans rfl
  have cBX0_1 : w10.cell? ⟨w5.heap.size, 1, none⟩ = some (.int .i64 a0_1) := (blk_cell BX0.out 1).trans rfl
  have cBX0_2 : w10.cell? ⟨w5.heap.size, 2, none⟩ = some (.slice A105_0 (convs l0_2).length c105_0) := (blk_cell BX0.out 2).trans rfl
  have O10_0 := NO10_0
  clear NO10_0
  clear cBA0_0 cBA0_1 cBA0_2 cBX0_0 cBX0_1 cBX0_2
  refine hK.out _ _ ⟨(blk_cell BX0.out 0).trans rfl, (blk_cell BX0.out 1).trans rfl, (blk_cell BX0.out 2).trans rfl, (blk_cell BA0.out 0).trans rfl, (blk_cell BA0.out 1).trans rfl, (blk_cell BA0.out 2).trans rfl⟩ (fun hHeld => ?_)
  clear hK K
  refine norm_ (a' := ?_) ?_ ?_
  rotate_left
  · show Act.put _ (some _) _ = _
    simp only [Act.put, List.setIfInBounds_toArray, List.set_cons_zero, List.set_cons_succ, i64_w, i32_w]
    rfl
  refine one_ (i := 3) #[true, true, true, true, false] rfl rfl (by kernel_rfl) (by decide) (fun K hK => ?_)
  refine goes_ Try.func19 (by kernel_rfl) rfl #[.agg #[.int .i64 a0_0, .int .i64 a0_1, .slice A105_0 (convs l0_2).length c105_0], .agg #[.int .i64 a0_0, .int .i64 a0_1, .slice A110_0 (convs l0_2).length c110_0]] (by rfl) rfl rfl (by first | rfl | ((try simp only [List.map_toArray, List.map_cons, List.map_nil]); first | done | rfl)) ?_
  with_reducible refine (laws_eqGrammar.calls kx0 a0_0 a0_1 _ _ (convs l0_2) a0_0 a0_1 _ _ (convs l0_2) true _ (Kd.S_reads' (by (with_reducible repeat (first | apply Kd.S_alloc | apply Kd.S_drewN | apply Kd.S_drew)); exact O5_0.out)).2.2 (Kd.S_reads' O5_0.out).2.1 (Kd.S_reads' (by (with_reducible repeat (first | apply Kd.S_alloc | apply Kd.S_drewN | apply Kd.S_drew)); exact O10_0.out)).2.2 (Kd.S_reads' O10_0.out).2.1 hkx0).mono ?_
  rintro e w11 ⟨rfl, hb⟩
  refine ⟨_, rfl, ?_⟩
  clear O10_0
  have HSZ := Aside0.mk (show w10.heap.size + 0 ≤ w11.heap.size by have h_ := hb.size; (try simp at h_); omega)
  have nB := Aside0.mk (below_step (by repeat (first | (with_reducible first | exact HB.out | apply below_alloc | apply pw_below_drewN | apply below_drew1) | exact HB.out)) hb)
  have nO4_0 := Aside0.mk (Kd.S_below (by (with_reducible repeat (first | apply Kd.S_alloc | apply Kd.S_drewN | apply Kd.S_drew)); exact O4_0.out) hb)
  have nO5_0 := Aside0.mk (Kd.S_below (by (with_reducible repeat (first | apply Kd.S_alloc | apply Kd.S_drewN | apply Kd.S_drew)); exact O5_0.out) hb)
  have nO6_0 := Aside0.mk (Kd.R_below (by (with_reducible repeat (first | apply Kd.R_alloc | apply Kd.R_drewN | apply Kd.R_drew)); exact O6_0.out) hb)
  have nO7_0 := Aside0.mk (Kd.S_below (by (with_reducible repeat (first | apply Kd.S_alloc | apply Kd.S_drewN | apply Kd.S_drew)); exact O7_0.out) hb)
  have nBA0 := Aside0.mk (blk_below (g := w.heap.size) (o := .cells #[.int .i64 a0_0, .int .i64 a0_1, .slice A0_2 l0_2.length c0_2] 24 (0, 0)) (by (with_reducible repeat (first | refine blk_drewN ?_ _ | refine blk_drew ?_ | refine blk_alloc ?_ _)); exact BA0.out) hb)
  have nBX0 := Aside0.mk (blk_below (g := w5.heap.size) (o := .cells #[.int .i64 a0_0, .int .i64 a0_1, .slice A105_0 (convs l0_2).length c105_0] 28 (0, 0)) (by (with_reducible repeat (first | refine blk_drewN ?_ _ | refine blk_drew ?_ | refine blk_alloc ?_ _)); exact BX0.out) hb)
  clear HB O4_0 O5_0 O6_0 O7_0 BA0 BX0
  have HB := nB
  have O4_0 := nO4_0
  have O5_0 := nO5_0
  have O6_0 := nO6_0
  have O7_0 := nO7_0
  have BA0 := nBA0
  have BX0 := nBX0
  clear nB nO4_0 nO5_0 nO6_0 nO7_0 nBA0 nBX0
  have Z11 := HSZ
  clear HSZ
  have cBA0_0 : w11.cell? ⟨w.heap.size, 0, none⟩ = some (.int .i64 a0_0) := (blk_cell BA0.out 0).trans rfl
  have cBA0_1 : w11.cell? ⟨w.heap.size, 1, none⟩ = some (.int .i64 a0_1) := (blk_cell BA0.out 1).trans rfl
  have cBA0_2 : w11.cell? ⟨w.heap.size, 2, none⟩ = some (.slice A0_2 l0_2.length c0_2) := (blk_cell BA0.out 2).trans rfl
  have cBX0_0 : w11.cell? ⟨w5.heap.size, 0, none⟩ = some (.int .i64 a0_0) := (blk_cell BX0.out 0).trans rfl
  have cBX0_1 : w11.cell? ⟨w5.heap.size, 1, none⟩ = some (.int .i64 a0_1) := (blk_cell BX0.out 1).trans rfl
  have cBX0_2 : w11.cell? ⟨w5.heap.size, 2, none⟩ = some (.slice A105_0 (convs l0_2).length c105_0) := (blk_cell BX0.out 2).trans rfl
  clear cBA0_0 cBA0_1 cBA0_2 cBX0_0 cBX0_1 cBX0_2
  refine hK.out _ _ ⟨(blk_cell BX0.out 0).trans rfl, (blk_cell BX0.out 1).trans rfl, (blk_cell BX0.out 2).trans rfl, (blk_cell BA0.out 0).trans rfl, (blk_cell BA0.out 1).trans rfl, (blk_cell BA0.out 2).trans rfl⟩ (fun hHeld => ?_)
  clear hK K
  refine norm_ (a' := ?_) ?_ ?_
  rotate_left
  · show Act.put _ (some _) _ = _
    simp only [Act.put, List.setIfInBounds_toArray, List.set_cons_zero, List.set_cons_succ, i64_w, i32_w]
    rfl
  refine pure_ (i := 4) (v := ?_) (a' := ?_) #[true, true, true, true, true] rfl rfl (by kernel_rfl) (fun _ _ _ h => h) (Or.inl ⟨by rfl, ?_⟩) ?_ ?_
  rotate_left
  · intro w'
    go_simp
    with_reducible rfl
  rotate_left
  · simp only [Act.put, List.setIfInBounds_toArray, List.set_cons_zero, List.set_cons_succ, i64_w, i32_w]
    rfl
  refine done_ (by kernel_rfl) ?_
  clear hHeld
  have cBA0_0 : w11.cell? ⟨w.heap.size, 0, none⟩ = some (.int .i64 a0_0) := (blk_cell BA0.out 0).trans rfl
  have cBA0_1 : w11.cell? ⟨w.heap.size, 1, none⟩ = some (.int .i64 a0_1) := (blk_cell BA0.out 1).trans rfl
  have cBA0_2 : w11.cell? ⟨w.heap.size, 2, none⟩ = some (.slice A0_2 l0_2.length c0_2) := (blk_cell BA0.out 2).trans rfl
  have cBX0_0 : w11.cell? ⟨w5.heap.size, 0, none⟩ = some (.int .i64 a0_0) := (blk_cell BX0.out 0).trans rfl
  have cBX0_1 : w11.cell? ⟨w5.heap.size, 1, none⟩ = some (.int .i64 a0_1) := (blk_cell BX0.out 1).trans rfl
  have cBX0_2 : w11.cell? ⟨w5.heap.size, 2, none⟩ = some (.slice A105_0 (convs l0_2).length c105_0) := (blk_cell BX0.out 2).trans rfl
  go_wp2_with fail
  clear cBA0_0 cBA0_1 cBA0_2 cBX0_0 cBX0_1 cBX0_2
  refine (laws_toIntS.calls kt1 A1 c1 l1 l1 _ (Kd.C_below hr1 (by repeat (first | (with_reducible first | exact HB.out | apply below_alloc | apply pw_below_drewN | apply below_drew1) | exact HB.out))) hc1 ht1).mono ?_
  rintro e w12 ⟨v0, rfl, ho0, hb⟩
  obtain ⟨A112_0, c112_0, ev_⟩ := Kd.R_slice ho0
  subst ev_
  have NO12_0 := Aside0.mk (Kd.R_mono (ok' := fun q_ => w11.heap.size + 0 ≤ q_ ∧ q_ < w12.heap.size) (Kd.R_lower (Kd.R_bound ho0) (below_size (by repeat (first | (with_reducible first | exact HB.out | apply below_alloc | apply pw_below_drewN | apply below_drew1) | exact HB.out)))) (fun q_ h_ => ⟨by have h2_ := h_.2.1; (try simp at h2_); omega, h_.2.2.1⟩))
  clear ho0
  have HSZ := Aside0.mk (show w11.heap.size + 0 ≤ w12.heap.size by have h_ := hb.size; (try simp at h_); omega)
  have nB := Aside0.mk (below_step (by repeat (first | (with_reducible first | exact HB.out | apply below_alloc | apply pw_below_drewN | apply below_drew1) | exact HB.out)) hb)
  have nO4_0 := Aside0.mk (Kd.S_below (by (with_reducible repeat (first | apply Kd.S_alloc | apply Kd.S_drewN | apply Kd.S_drew)); exact O4_0.out) hb)
  have nO5_0 := Aside0.mk (Kd.S_below (by (with_reducible repeat (first | apply Kd.S_alloc | apply Kd.S_drewN | apply Kd.S_drew)); exact O5_0.out) hb)
  have nO6_0 := Aside0.mk (Kd.R_below (by (with_reducible repeat (first | apply Kd.R_alloc | apply Kd.R_drewN | apply Kd.R_drew)); exact O6_0.out) hb)
  have nO7_0 := Aside0.mk (Kd.S_below (by (with_reducible repeat (first | apply Kd.S_alloc | apply Kd.S_drewN | apply Kd.S_drew)); exact O7_0.out) hb)
  have nBA0 := Aside0.mk (blk_below (g := w.heap.size) (o := .cells #[.int .i64 a0_0, .int .i64 a0_1, .slice A0_2 l0_2.length c0_2] 24 (0, 0)) (by (with_reducible repeat (first | refine blk_drewN ?_ _ | refine blk_drew ?_ | refine blk_alloc ?_ _)); exact BA0.out) hb)
  have nBX0 := Aside0.mk (blk_below (g := w5.heap.size) (o := .cells #[.int .i64 a0_0, .int .i64 a0_1, .slice A105_0 (convs l0_2).length c105_0] 28 (0, 0)) (by (with_reducible repeat (first | refine blk_drewN ?_ _ | refine blk_drew ?_ | refine blk_alloc ?_ _)); exact BX0.out) hb)
  clear HB O4_0 O5_0 O6_0 O7_0 BA0 BX0
  have HB := nB
  have O4_0 := nO4_0
  have O5_0 := nO5_0
  have O6_0 := nO6_0
  have O7_0 := nO7_0
  have BA0 := nBA0
  have BX0 := nBX0
  clear nB nO4_0 nO5_0 nO6_0 nO7_0 nBA0 nBX0
  have Z12 := HSZ
  clear HSZ
  have cBA0_0 : w12.cell? ⟨w.heap.size, 0, none⟩ = some (.int .i64 a0_0) := (blk_cell BA0.out 0).trans rfl
  have cBA0_1 : w12.cell? ⟨w.heap.size, 1, none⟩ = some (.int .i64 a0_1) := (blk_cell BA0.out 1).trans rfl
  have cBA0_2 : w12.cell? ⟨w.heap.size, 2, none⟩ = some (.slice A0_2 l0_2.length c0_2) := (blk_cell BA0.out 2).trans rfl
  have cBX0_0 : w12.cell? ⟨w5.heap.size, 0, none⟩ = some (.int .i64 a0_0) := (blk_cell BX0.out 0).trans rfl
  have cBX0_1 : w12.cell? ⟨w5.heap.size, 1, none⟩ = some (.int .i64 a0_1) := (blk_cell BX0.out 1).trans rfl
  have cBX0_2 : w12.cell? ⟨w5.heap.size, 2, none⟩ = some (.slice A105_0 (convs l0_2).length c105_0) := (blk_cell BX0.out 2).trans rfl
  have O12_0 := NO12_0
  clear NO12_0
  go_wp2_with fail
  clear cBA0_0 cBA0_1 cBA0_2 cBX0_0 cBX0_1 cBX0_2
  refine (laws_eqIntS.calls kx1 _ _ l1 _ _ l1 true _ (Kd.R_reads' (by (with_reducible repeat (first | apply Kd.R_alloc | apply Kd.R_drewN | apply Kd.R_drew)); exact O6_0.out)).2.2 (Kd.R_reads' O6_0.out).2.1 (Kd.R_reads' (by (with_reducible repeat (first | apply Kd.R_alloc | apply Kd.R_drewN | apply Kd.R_drew)); exact O12_0.out)).2.2 (Kd.R_reads' O12_0.out).2.1 hkx1).mono ?_
  rintro e w13 ⟨rfl, hd⟩
  have hb := drawn_below hd
  clear hd
  have HSZ := Aside0.mk (show w12.heap.size + 0 ≤ w13.heap.size by have h_ := hb.size; (try simp at h_); omega)
  have nB := Aside0.mk (below_step (by repeat (first | (with_reducible first | exact HB.out | apply below_alloc | apply pw_below_drewN | apply below_drew1) | exact HB.out)) hb)
  have nO4_0 := Aside0.mk (Kd.S_below (by (with_reducible repeat (first | apply Kd.S_alloc | apply Kd.S_drewN | apply Kd.S_drew)); exact O4_0.out) hb)
  have nO5_0 := Aside0.mk (Kd.S_below (by (with_reducible repeat (first | apply Kd.S_alloc | apply Kd.S_drewN | apply Kd.S_drew)); exact O5_0.out) hb)
  have nO6_0 := Aside0.mk (Kd.R_below (by (with_reducible repeat (first | apply Kd.R_alloc | apply Kd.R_drewN | apply Kd.R_drew)); exact O6_0.out) hb)
  have nO7_0 := Aside0.mk (Kd.S_below (by (with_reducible repeat (first | apply Kd.S_alloc | apply Kd.S_drewN | apply Kd.S_drew)); exact O7_0.out) hb)
  have nO12_0 := Aside0.mk (Kd.R_below (by (with_reducible repeat (first | apply Kd.R_alloc | apply Kd.R_drewN | apply Kd.R_drew)); exact O12_0.out) hb)
  have nBA0 := Aside0.mk (blk_below (g := w.heap.size) (o := .cells #[.int .i64 a0_0, .int .i64 a0_1, .slice A0_2 l0_2.length c0_2] 24 (0, 0)) (by (with_reducible repeat (first | refine blk_drewN ?_ _ | refine blk_drew ?_ | refine blk_alloc ?_ _)); exact BA0.out) hb)
  have nBX0 := Aside0.mk (blk_below (g := w5.heap.size) (o := .cells #[.int .i64 a0_0, .int .i64 a0_1, .slice A105_0 (convs l0_2).length c105_0] 28 (0, 0)) (by (with_reducible repeat (first | refine blk_drewN ?_ _ | refine blk_drew ?_ | refine blk_alloc ?_ _)); exact BX0.out) hb)
  clear HB O4_0 O5_0 O6_0 O7_0 O12_0 BA0 BX0
  have HB := nB
  have O4_0 := nO4_0
  have O5_0 := nO5_0
  have O6_0 := nO6_0
  have O7_0 := nO7_0
  have O12_0 := nO12_0
  have BA0 := nBA0
  have BX0 := nBX0
  clear nB nO4_0 nO5_0 nO6_0 nO7_0 nO12_0 nBA0 nBX0
  have Z13 := HSZ
  clear HSZ
  have cBA0_0 : w13.cell? ⟨w.heap.size, 0, none⟩ = some (.int .i64 a0_0) := (blk_cell BA0.out 0).trans rfl
  have cBA0_1 : w13.cell? ⟨w.heap.size, 1, none⟩ = some (.int .i64 a0_1) := (blk_cell BA0.out 1).trans rfl
  have cBA0_2 : w13.cell? ⟨w.heap.size, 2, none⟩ = some (.slice A0_2 l0_2.length c0_2) := (blk_cell BA0.out 2).trans rfl
  have cBX0_0 : w13.cell? ⟨w5.heap.size, 0, none⟩ = some (.int .i64 a0_0) := (blk_cell BX0.out 0).trans rfl
  have cBX0_1 : w13.cell? ⟨w5.heap.size, 1, none⟩ = some (.int .i64 a0_1) := (blk_cell BX0.out 1).trans rfl
  have cBX0_2 : w13.cell? ⟨w5.heap.size, 2, none⟩ = some (.slice A105_0 (convs l0_2).length c105_0) := (blk_cell BX0.out 2).trans rfl
  obtain ⟨kk0, hkk0⟩ : ∃ z_ : Int, z_ = 1 + (szR (convs l0_2) : Int) := ⟨_, rfl⟩
  go_wp2_with fail
  clear cBA0_0 cBA0_1 cBA0_2 cBX0_0 cBX0_1 cBX0_2
  have CM := markGrammar_calls (fun q_ => w4.heap.size + 0 ≤ q_ ∧ q_ < w5.heap.size) a0_0 a0_1 _ (convs l0_2) (1) w _ (by repeat (first | (with_reducible first | exact HB.out | apply below_alloc | apply pw_below_drewN | apply below_drew1) | exact HB.out)) (by (with_reducible repeat (first | apply Kd.S_alloc | apply Kd.S_drewN | apply Kd.S_drew)); exact O5_0.out) (by omega) (by have := bx0; omega)
  rw [← hkk0] at CM
  refine CM.mono ?_
  rintro e w14 ⟨rfl, ho, hB_, hK_⟩
  have NB := Aside0.mk hB_
  have NK := Aside0.mk hK_
  have NO := Aside0.mk ho
  clear ho hB_ hK_ CM
  have HSZ := Aside0.mk (show w13.heap.size + 0 ≤ w14.heap.size by have h_ := NK.out.1; (try simp at h_); omega)
  have nB := NB
  have nO4_0 := Aside0.mk (Kd.S_kept (by (with_reducible repeat (first | apply Kd.S_alloc | apply Kd.S_drewN | apply Kd.S_drew)); exact O4_0.out) NK.out (fun q_ h1_ h2_ => by have := Z1.out; have := Z2.out; have := Z3.out; have := Z4.out; have := Z5.out; have := Z6.out; have := Z7.out; have := Z8.out; have := Z9.out; have := Z10.out; have := Z11.out; have := Z12.out; have := Z13.out; omega))
  have nO6_0 := Aside0.mk (Kd.R_kept (by (with_reducible repeat (first | apply Kd.R_alloc | apply Kd.R_drewN | apply Kd.R_drew)); exact O6_0.out) NK.out (fun q_ h1_ h2_ => by have := Z1.out; have := Z2.out; have := Z3.out; have := Z4.out; have := Z5.out; have := Z6.out; have := Z7.out; have := Z8.out; have := Z9.out; have := Z10.out; have := Z11.out; have := Z12.out; have := Z13.out; omega))
  have nO7_0 := Aside0.mk (Kd.S_kept (by (with_reducible repeat (first | apply Kd.S_alloc | apply Kd.S_drewN | apply Kd.S_drew)); exact O7_0.out) NK.out (fun q_ h1_ h2_ => by have := Z1.out; have := Z2.out; have := Z3.out; have := Z4.out; have := Z5.out; have := Z6.out; have := Z7.out; have := Z8.out; have := Z9.out; have := Z10.out; have := Z11.out; have := Z12.out; have := Z13.out; omega))
  have nBA0 := Aside0.mk (blk_kept (g := w.heap.size) (o := .cells #[.int .i64 a0_0, .int .i64 a0_1, .slice A0_2 l0_2.length c0_2] 24 (0, 0)) (by (with_reducible repeat (first | refine blk_drewN ?_ _ | refine blk_drew ?_ | refine blk_alloc ?_ _)); exact BA0.out) NK.out (fun h2_ => by have := Z1.out; have := Z2.out; have := Z3.out; have := Z4.out; have := Z5.out; have := Z6.out; have := Z7.out; have := Z8.out; have := Z9.out; have := Z10.out; have := Z11.out; have := Z12.out; have := Z13.out; omega))
  have nBX0 := Aside0.mk (blk_kept (g := w5.heap.size) (o := .cells #[.int .i64 a0_0, .int .i64 a0_1, .slice A105_0 (convs l0_2).length c105_0] 28 (0, 0)) (by (with_reducible repeat (first | refine blk_drewN ?_ _ | refine blk_drew ?_ | refine blk_alloc ?_ _)); exact BX0.out) NK.out (fun h2_ => by have := Z1.out; have := Z2.out; have := Z3.out; have := Z4.out; have := Z5.out; have := Z6.out; have := Z7.out; have := Z8.out; have := Z9.out; have := Z10.out; have := Z11.out; have := Z12.out; have := Z13.out; omega))
  clear HB O4_0 O6_0 O7_0 BA0 BX0
  have HB := nB
  have O4_0 := nO4_0
  have O6_0 := nO6_0
  have O7_0 := nO7_0
  have BA0 := nBA0
  have BX0 := nBX0
  clear nB nO4_0 nO6_0 nO7_0 nBA0 nBX0
  have Z14 := HSZ
  clear HSZ
  have cBA0_0 : w14.cell? ⟨w.heap.size, 0, none⟩ = some (.int .i64 a0_0) := (blk_cell BA0.out 0).trans rfl
  have cBA0_1 : w14.cell? ⟨w.heap.size, 1, none⟩ = some (.int .i64 a0_1) := (blk_cell BA0.out 1).trans rfl
  have cBA0_2 : w14.cell? ⟨w.heap.size, 2, none⟩ = some (.slice A0_2 l0_2.length c0_2) := (blk_cell BA0.out 2).trans rfl
  have cBX0_0 : w14.cell? ⟨w5.heap.size, 0, none⟩ = some (.int .i64 a0_0) := (blk_cell BX0.out 0).trans rfl
  have cBX0_1 : w14.cell? ⟨w5.heap.size, 1, none⟩ = some (.int .i64 a0_1) := (blk_cell BX0.out 1).trans rfl
  have cBX0_2 : w14.cell? ⟨w5.heap.size, 2, none⟩ = some (.slice A105_0 (convs l0_2).length c105_0) := (blk_cell BX0.out 2).trans rfl
  clear O5_0
  have O5_0 := NO
  clear NO NK NB
  have dkk0 : decide (kk0 < 0) = false := decide_eq_false (by omega)
  have gkk0 : 0 ≤ kk0 := by omega
  have qkk0 : kk0 ≤ 1152921504606847 := by have := bx0; omega
  have Skk0 := Aside0.mk hkk0
  clear hkk0
  obtain ⟨kk1, hkk1⟩ : ∃ z_ : Int, z_ = kk0 + (l1.length : Int) := ⟨_, rfl⟩
  go_wp2_with fail
  clear cBA0_0 cBA0_1 cBA0_2 cBX0_0 cBX0_1 cBX0_2
  have CM := markIntS_calls (fun q_ => w5.heap.size + 1 ≤ q_ ∧ q_ < w6.heap.size) _ l1 (kk0) w _ (by repeat (first | (with_reducible first | exact HB.out | apply below_alloc | apply pw_below_drewN | apply below_drew1) | exact HB.out)) (by (with_reducible repeat (first | apply Kd.R_alloc | apply Kd.R_drewN | apply Kd.R_drew)); exact O6_0.out) (by omega) (by have := bx1; omega)
  rw [← hkk1] at CM
  refine CM.mono ?_
  rintro e w15 ⟨rfl, ho, hB_, hK_⟩
  have NB := Aside0.mk hB_
  have NK := Aside0.mk hK_
  have NO := Aside0.mk ho
  clear ho hB_ hK_ CM
  have HSZ := Aside0.mk (show w14.heap.size + 0 ≤ w15.heap.size by have h_ := NK.out.1; (try simp at h_); omega)
  have nB := NB
  have nO4_0 := Aside0.mk (Kd.S_kept (by (with_reducible repeat (first | apply Kd.S_alloc | apply Kd.S_drewN | apply Kd.S_drew)); exact O4_0.out) NK.out (fun q_ h1_ h2_ => by have := Z1.out; have := Z2.out; have := Z3.out; have := Z4.out; have := Z5.out; have := Z6.out; have := Z7.out; have := Z8.out; have := Z9.out; have := Z10.out; have := Z11.out; have := Z12.out; have := Z13.out; have := Z14.out; omega))
  have nO5_0 := Aside0.mk (Kd.S_kept (by (with_reducible repeat (first | apply Kd.S_alloc | apply Kd.S_drewN | apply Kd.S_drew)); exact O5_0.out) NK.out (fun q_ h1_ h2_ => by have := Z1.out; have := Z2.out; have := Z3.out; have := Z4.out; have := Z5.out; have := Z6.out; have := Z7.out; have := Z8.out; have := Z9.out; have := Z10.out; have := Z11.out; have := Z12.out; have := Z13.out; have := Z14.out; omega))
  have nO7_0 := Aside0.mk (Kd.S_kept (by (with_reducible repeat (first | apply Kd.S_alloc | apply Kd.S_drewN | apply Kd.S_drew)); exact O7_0.out) NK.out (fun q_ h1_ h2_ => by have := Z1.out; have := Z2.out; have := Z3.out; have := Z4.out; have := Z5.out; have := Z6.out; have := Z7.out; have := Z8.out; have := Z9.out; have := Z10.out; have := Z11.out; have := Z12.out; have := Z13.out; have := Z14.out; omega))
  have nBA0 := Aside0.mk (blk_kept (g := w.heap.size) (o := .cells #[.int .i64 a0_0, .int .i64 a0_1, .slice A0_2 l0_2.length c0_2] 24 (0, 0)) (by (with_reducible repeat (first | refine blk_drewN ?_ _ | refine blk_drew ?_ | refine blk_alloc ?_ _)); exact BA0.out) NK.out (fun h2_ => by have := Z1.out; have := Z2.out; have := Z3.out; have := Z4.out; have := Z5.out; have := Z6.out; have := Z7.out; have := Z8.out; have := Z9.out; have := Z10.out; have := Z11.out; have := Z12.out; have := Z13.out; have := Z14.out; omega))
  have nBX0 := Aside0.mk (blk_kept (g := w5.heap.size) (o := .cells #[.int .i64 a0_0, .int .i64 a0_1, .slice A105_0 (convs l0_2).length c105_0] 28 (0, 0)) (by (with_reducible repeat (first | refine blk_drewN ?_ _ | refine blk_drew ?_ | refine blk_alloc ?_ _)); exact BX0.out) NK.out (fun h2_ => by have := Z1.out; have := Z2.out; have := Z3.out; have := Z4.out; have := Z5.out; have := Z6.out; have := Z7.out; have := Z8.out; have := Z9.out; have := Z10.out; have := Z11.out; have := Z12.out; have := Z13.out; have := Z14.out; omega))
  clear HB O4_0 O5_0 O7_0 BA0 BX0
  have HB := nB
  have O4_0 := nO4_0
  have O5_0 := nO5_0
  have O7_0 := nO7_0
  have BA0 := nBA0
  have BX0 := nBX0
  clear nB nO4_0 nO5_0 nO7_0 nBA0 nBX0
  have Z15 := HSZ
  clear HSZ
  have cBA0_0 : w15.cell? ⟨w.heap.size, 0, none⟩ = some (.int .i64 a0_0) := (blk_cell BA0.out 0).trans rfl
  have cBA0_1 : w15.cell? ⟨w.heap.size, 1, none⟩ = some (.int .i64 a0_1) := (blk_cell BA0.out 1).trans rfl
  have cBA0_2 : w15.cell? ⟨w.heap.size, 2, none⟩ = some (.slice A0_2 l0_2.length c0_2) := (blk_cell BA0.out 2).trans rfl
  have cBX0_0 : w15.cell? ⟨w5.heap.size, 0, none⟩ = some (.int .i64 a0_0) := (blk_cell BX0.out 0).trans rfl
  have cBX0_1 : w15.cell? ⟨w5.heap.size, 1, none⟩ = some (.int .i64 a0_1) := (blk_cell BX0.out 1).trans rfl
  have cBX0_2 : w15.cell? ⟨w5.heap.size, 2, none⟩ = some (.slice A105_0 (convs l0_2).length c105_0) := (blk_cell BX0.out 2).trans rfl
  clear O6_0
  have O6_0 := NO
  clear NO NK NB
  have dkk1 : decide (kk1 < 0) = false := decide_eq_false (by omega)
  have gkk1 : 0 ≤ kk1 := by omega
  have qkk1 : kk1 ≤ 2305843009213694 := by have := bx1; omega
  have Skk1 := Aside0.mk hkk1
  clear hkk1
  clear O5_0
  clear O6_0
  go_wp2_with fail
  clear cBA0_0 cBA0_1 cBA0_2
  refine (laws_eqIntSS.calls ke0 _ _ r0 _ _ r0 true _ (Kd.S_reads' (by (with_reducible repeat (first | apply Kd.S_alloc | apply Kd.S_drewN | apply Kd.S_drew)); exact O7_0.out)).2.2 (Kd.S_reads' O7_0.out).2.1 (Kd.S_reads' (by (with_reducible repeat (first | apply Kd.S_alloc | apply Kd.S_drewN | apply Kd.S_drew)); exact O4_0.out)).2.2 (Kd.S_reads' O4_0.out).2.1 hke0).mono ?_
  rintro e w16 ⟨rfl, hd⟩
  have hb := drawn_below hd
  clear hd
  have HSZ := Aside0.mk (show w15.heap.size + 0 ≤ w16.heap.size by have h_ := hb.size; (try simp at h_); omega)
  have nB := Aside0.mk (below_step (by repeat (first | (with_reducible first | exact HB.out | apply below_alloc | apply pw_below_drewN | apply below_drew1) | exact HB.out)) hb)
  have nO4_0 := Aside0.mk (Kd.S_below (by (with_reducible repeat (first | apply Kd.S_alloc | apply Kd.S_drewN | apply Kd.S_drew)); exact O4_0.out) hb)
  have nO7_0 := Aside0.mk (Kd.S_below (by (with_reducible repeat (first | apply Kd.S_alloc | apply Kd.S_drewN | apply Kd.S_drew)); exact O7_0.out) hb)
  have nBA0 := Aside0.mk (blk_below (g := w.heap.size) (o := .cells #[.int .i64 a0_0, .int .i64 a0_1, .slice A0_2 l0_2.length c0_2] 24 (0, 0)) (by (with_reducible repeat (first | refine blk_drewN ?_ _ | refine blk_drew ?_ | refine blk_alloc ?_ _)); exact BA0.out) hb)
  clear HB O4_0 O7_0 BA0
  have HB := nB
  have O4_0 := nO4_0
  have O7_0 := nO7_0
  have BA0 := nBA0
  clear nB nO4_0 nO7_0 nBA0
  have Z16 := HSZ
  clear HSZ
  have cBA0_0 : w16.cell? ⟨w.heap.size, 0, none⟩ = some (.int .i64 a0_0) := (blk_cell BA0.out 0).trans rfl
  have cBA0_1 : w16.cell? ⟨w.heap.size, 1, none⟩ = some (.int .i64 a0_1) := (blk_cell BA0.out 1).trans rfl
  have cBA0_2 : w16.cell? ⟨w.heap.size, 2, none⟩ = some (.slice A0_2 l0_2.length c0_2) := (blk_cell BA0.out 2).trans rfl
  obtain ⟨mm0, hmm0⟩ : ∃ z_ : Int, z_ = 1 + (szRows r0 : Int) := ⟨_, rfl⟩
  go_wp2_with fail
  clear cBA0_0 cBA0_1 cBA0_2
  have CM := markIntSS_calls (fun q_ => w6.heap.size + 0 ≤ q_ ∧ q_ < w7.heap.size) _ r0 (1) w _ (by repeat (first | (with_reducible first | exact HB.out | apply below_alloc | apply pw_below_drewN | apply below_drew1) | exact HB.out)) (by (with_reducible repeat (first | apply Kd.S_alloc | apply Kd.S_drewN | apply Kd.S_drew)); exact O7_0.out) (by omega) (by have := br0; omega) (by omega)
  rw [← hmm0] at CM
  refine CM.mono ?_
  rintro e w17 ⟨rfl, ho, hB_, hK_⟩
  have NB := Aside0.mk hB_
  have NK := Aside0.mk hK_
  have NO := Aside0.mk ho
  clear ho hB_ hK_ CM
  have HSZ := Aside0.mk (show w16.heap.size + 0 ≤ w17.heap.size by have h_ := NK.out.1; (try simp at h_); omega)
  have nB := NB
  have nO4_0 := Aside0.mk (Kd.S_kept (by (with_reducible repeat (first | apply Kd.S_alloc | apply Kd.S_drewN | apply Kd.S_drew)); exact O4_0.out) NK.out (fun q_ h1_ h2_ => by have := Z1.out; have := Z2.out; have := Z3.out; have := Z4.out; have := Z5.out; have := Z6.out; have := Z7.out; have := Z8.out; have := Z9.out; have := Z10.out; have := Z11.out; have := Z12.out; have := Z13.out; have := Z14.out; have := Z15.out; have := Z16.out; omega))
  have nBA0 := Aside0.mk (blk_kept (g := w.heap.size) (o := .cells #[.int .i64 a0_0, .int .i64 a0_1, .slice A0_2 l0_2.length c0_2] 24 (0, 0)) (by (with_reducible repeat (first | refine blk_drewN ?_ _ | refine blk_drew ?_ | refine blk_alloc ?_ _)); exact BA0.out) NK.out (fun h2_ => by have := Z1.out; have := Z2.out; have := Z3.out; have := Z4.out; have := Z5.out; have := Z6.out; have := Z7.out; have := Z8.out; have := Z9.out; have := Z10.out; have := Z11.out; have := Z12.out; have := Z13.out; have := Z14.out; have := Z15.out; have := Z16.out; omega))
  clear HB O4_0 BA0
  have HB := nB
  have O4_0 := nO4_0
  have BA0 := nBA0
  clear nB nO4_0 nBA0
  have Z17 := HSZ
  clear HSZ
  have cBA0_0 : w17.cell? ⟨w.heap.size, 0, none⟩ = some (.int .i64 a0_0) := (blk_cell BA0.out 0).trans rfl
  have cBA0_1 : w17.cell? ⟨w.heap.size, 1, none⟩ = some (.int .i64 a0_1) := (blk_cell BA0.out 1).trans rfl
  have cBA0_2 : w17.cell? ⟨w.heap.size, 2, none⟩ = some (.slice A0_2 l0_2.length c0_2) := (blk_cell BA0.out 2).trans rfl
  clear O7_0
  have O7_0 := NO
  clear NO NK NB
  have dmm0 : decide (mm0 < 0) = false := decide_eq_false (by omega)
  have gmm0 : 0 ≤ mm0 := by omega
  have qmm0 : mm0 ≤ 1152921504606847 := by have := br0; omega
  have Smm0 := Aside0.mk hmm0
  clear hmm0
  go_wp2_with fail
  clear cBA0_0 cBA0_1 cBA0_2
  have CH := fun A_ c_ w_ hr_ hc_ => heldIntSS_calls  A_ c_ r0 (1) w_ hr_ hc_ (by omega) (by have := br0; omega) (by omega)
  rw [← Smm0.out] at CH
  refine (CH _ _ _ (Kd.S_reads' (by (with_reducible repeat (first | apply Kd.S_alloc | apply Kd.S_drewN | apply Kd.S_drew)); exact O7_0.out)).2.2 (Kd.S_reads' O7_0.out).2.1).mono ?_
  rintro e w18 ⟨rfl, hb⟩
  clear CH
  have HSZ := Aside0.mk (show w17.heap.size + 0 ≤ w18.heap.size by have h_ := hb.size; (try simp at h_); omega)
  have nB := Aside0.mk (below_step (by repeat (first | (with_reducible first | exact HB.out | apply below_alloc | apply pw_below_drewN | apply below_drew1) | exact HB.out)) hb)
  have nO4_0 := Aside0.mk (Kd.S_below (by (with_reducible repeat (first | apply Kd.S_alloc | apply Kd.S_drewN | apply Kd.S_drew)); exact O4_0.out) hb)
  have nO7_0 := Aside0.mk (Kd.S_below (by (with_reducible repeat (first | apply Kd.S_alloc | apply Kd.S_drewN | apply Kd.S_drew)); exact O7_0.out) hb)
  have nBA0 := Aside0.mk (blk_below (g := w.heap.size) (o := .cells #[.int .i64 a0_0, .int .i64 a0_1, .slice A0_2 l0_2.length c0_2] 24 (0, 0)) (by (with_reducible repeat (first | refine blk_drewN ?_ _ | refine blk_drew ?_ | refine blk_alloc ?_ _)); exact BA0.out) hb)
  clear HB O4_0 O7_0 BA0
  have HB := nB
  have O4_0 := nO4_0
  have O7_0 := nO7_0
  have BA0 := nBA0
  clear nB nO4_0 nO7_0 nBA0
  have Z18 := HSZ
  clear HSZ
  have cBA0_0 : w18.cell? ⟨w.heap.size, 0, none⟩ = some (.int .i64 a0_0) := (blk_cell BA0.out 0).trans rfl
  have cBA0_1 : w18.cell? ⟨w.heap.size, 1, none⟩ = some (.int .i64 a0_1) := (blk_cell BA0.out 1).trans rfl
  have cBA0_2 : w18.cell? ⟨w.heap.size, 2, none⟩ = some (.slice A0_2 l0_2.length c0_2) := (blk_cell BA0.out 2).trans rfl
  go_wp2_with fail
  clear cBA0_0 cBA0_1 cBA0_2
  refine (laws_toGrammar.calls kt0 a0_0 a0_1 A0_2 c0_2 l0_2 a0_0 a0_1 (convs l0_2) _ (Kd.C_below hr0_2 (by repeat (first | (with_reducible first | exact HB.out | apply below_alloc | apply pw_below_drewN | apply below_drew1) | exact HB.out))) hc0_2 ht0).mono ?_
  rintro e w19 ⟨v0, rfl, ho0, hb⟩
  obtain ⟨A119_0, c119_0, ev_⟩ := Kd.S_slice ho0
  subst ev_
  have NO19_0 := Aside0.mk (Kd.S_mono (ok' := fun q_ => w18.heap.size + 0 ≤ q_ ∧ q_ < w19.heap.size) (Kd.S_lower (Kd.S_bound ho0) (below_size (by repeat (first | (with_reducible first | exact HB.out | apply below_alloc | apply pw_below_drewN | apply below_drew1) | exact HB.out)))) (fun q_ h_ => ⟨by have h2_ := h_.2.1; (try simp at h2_); omega, h_.2.2.1⟩))
  clear ho0
  have HSZ := Aside0.mk (show w18.heap.size + 0 ≤ w19.heap.size by have h_ := hb.size; (try simp at h_); omega)
  have nB := Aside0.mk (below_step (by repeat (first | (with_reducible first | exact HB.out | apply below_alloc | apply pw_below_drewN | apply below_drew1) | exact HB.out)) hb)
  have nO4_0 := Aside0.mk (Kd.S_below (by (with_reducible repeat (first | apply Kd.S_alloc | apply Kd.S_drewN | apply Kd.S_drew)); exact O4_0.out) hb)
  have nO7_0 := Aside0.mk (Kd.S_below (by (with_reducible repeat (first | apply Kd.S_alloc | apply Kd.S_drewN | apply Kd.S_drew)); exact O7_0.out) hb)
  have nBA0 := Aside0.mk (blk_below (g := w.heap.size) (o := .cells #[.int .i64 a0_0, .int .i64 a0_1, .slice A0_2 l0_2.length c0_2] 24 (0, 0)) (by (with_reducible repeat (first | refine blk_drewN ?_ _ | refine blk_drew ?_ | refine blk_alloc ?_ _)); exact BA0.out) hb)
  clear HB O4_0 O7_0 BA0
  have HB := nB
  have O4_0 := nO4_0
  have O7_0 := nO7_0
  have BA0 := nBA0
  clear nB nO4_0 nO7_0 nBA0
  have Z19 := HSZ
  clear HSZ
  have cBA0_0 : w19.cell? ⟨w.heap.size, 0, none⟩ = some (.int .i64 a0_0) := (blk_cell BA0.out 0).trans rfl
  have cBA0_1 : w19.cell? ⟨w.heap.size, 1, none⟩ = some (.int .i64 a0_1) := (blk_cell BA0.out 1).trans rfl
  have cBA0_2 : w19.cell? ⟨w.heap.size, 2, none⟩ = some (.slice A0_2 l0_2.length c0_2) := (blk_cell BA0.out 2).trans rfl
  have O19_0 := NO19_0
  clear NO19_0
  go_wp2_with fail
  clear cBA0_0 cBA0_1 cBA0_2
  refine (laws_toIntS.calls kt1 A1 c1 l1 l1 _ (Kd.C_below hr1 (by repeat (first | (with_reducible first | exact HB.out | apply below_alloc | apply pw_below_drewN | apply below_drew1) | exact HB.out))) hc1 ht1).mono ?_
  rintro e w20 ⟨v0, rfl, ho0, hb⟩
  obtain ⟨A120_0, c120_0, ev_⟩ := Kd.R_slice ho0
  subst ev_
  have NO20_0 := Aside0.mk (Kd.R_mono (ok' := fun q_ => w19.heap.size + 0 ≤ q_ ∧ q_ < w20.heap.size) (Kd.R_lower (Kd.R_bound ho0) (below_size (by repeat (first | (with_reducible first | exact HB.out | apply below_alloc | apply pw_below_drewN | apply below_drew1) | exact HB.out)))) (fun q_ h_ => ⟨by have h2_ := h_.2.1; (try simp at h2_); omega, h_.2.2.1⟩))
  clear ho0
  have HSZ := Aside0.mk (show w19.heap.size + 0 ≤ w20.heap.size by have h_ := hb.size; (try simp at h_); omega)
  have nB := Aside0.mk (below_step (by repeat (first | (with_reducible first | exact HB.out | apply below_alloc | apply pw_below_drewN | apply below_drew1) | exact HB.out)) hb)
  have nO4_0 := Aside0.mk (Kd.S_below (by (with_reducible repeat (first | apply Kd.S_alloc | apply Kd.S_drewN | apply Kd.S_drew)); exact O4_0.out) hb)
  have nO7_0 := Aside0.mk (Kd.S_below (by (with_reducible repeat (first | apply Kd.S_alloc | apply Kd.S_drewN | apply Kd.S_drew)); exact O7_0.out) hb)
  have nO19_0 := Aside0.mk (Kd.S_below (by (with_reducible repeat (first | apply Kd.S_alloc | apply Kd.S_drewN | apply Kd.S_drew)); exact O19_0.out) hb)
  have nBA0 := Aside0.mk (blk_below (g := w.heap.size) (o := .cells #[.int .i64 a0_0, .int .i64 a0_1, .slice A0_2 l0_2.length c0_2] 24 (0, 0)) (by (with_reducible repeat (first | refine blk_drewN ?_ _ | refine blk_drew ?_ | refine blk_alloc ?_ _)); exact BA0.out) hb)
  clear HB O4_0 O7_0 O19_0 BA0
  have HB := nB
  have O4_0 := nO4_0
  have O7_0 := nO7_0
  have O19_0 := nO19_0
  have BA0 := nBA0
  clear nB nO4_0 nO7_0 nO19_0 nBA0
  have Z20 := HSZ
  clear HSZ
  have cBA0_0 : w20.cell? ⟨w.heap.size, 0, none⟩ = some (.int .i64 a0_0) := (blk_cell BA0.out 0).trans rfl
  have cBA0_1 : w20.cell? ⟨w.heap.size, 1, none⟩ = some (.int .i64 a0_1) := (blk_cell BA0.out 1).trans rfl
  have cBA0_2 : w20.cell? ⟨w.heap.size, 2, none⟩ = some (.slice A0_2 l0_2.length c0_2) := (blk_cell BA0.out 2).trans rfl
  have O20_0 := NO20_0
  clear NO20_0
  go_wp2_with fail
  clear cBA0_0 cBA0_1 cBA0_2
  refine (impl_SpansOf.calls a0_0 a0_1 _ _ (convs l0_2) _ _ l1 r0 r1 _ (Kd.S_reads' (by (with_reducible repeat (first | apply Kd.S_alloc | apply Kd.S_drewN | apply Kd.S_drew)); exact O19_0.out)).2.2 (Kd.S_reads' O19_0.out).2.1 (Kd.R_reads' (by (with_reducible repeat (first | apply Kd.R_alloc | apply Kd.R_drewN | apply Kd.R_drew)); exact O20_0.out)).2.2 (Kd.R_reads' O20_0.out).2.1 hki).mono ?_
  rintro e w21 ⟨v0, rfl, ho0, hb⟩
  obtain ⟨A121_0, c121_0, ev_⟩ := Kd.S_slice ho0
  subst ev_
  have NO21_0 := Aside0.mk (Kd.S_mono (ok' := fun q_ => w20.heap.size + 0 ≤ q_ ∧ q_ < w21.heap.size) (Kd.S_lower (Kd.S_bound ho0) (below_size (by repeat (first | (with_reducible first | exact HB.out | apply below_alloc | apply pw_below_drewN | apply below_drew1) | exact HB.out)))) (fun q_ h_ => ⟨by have h2_ := h_.2.1; (try simp at h2_); omega, h_.2.2.1⟩))
  clear ho0
  have HSZ := Aside0.mk (show w20.heap.size + 0 ≤ w21.heap.size by have h_ := hb.size; (try simp at h_); omega)
  have nB := Aside0.mk (below_step (by repeat (first | (with_reducible first | exact HB.out | apply below_alloc | apply pw_below_drewN | apply below_drew1) | exact HB.out)) hb)
  have nO4_0 := Aside0.mk (Kd.S_below (by (with_reducible repeat (first | apply Kd.S_alloc | apply Kd.S_drewN | apply Kd.S_drew)); exact O4_0.out) hb)
  have nO7_0 := Aside0.mk (Kd.S_below (by (with_reducible repeat (first | apply Kd.S_alloc | apply Kd.S_drewN | apply Kd.S_drew)); exact O7_0.out) hb)
  have nO19_0 := Aside0.mk (Kd.S_below (by (with_reducible repeat (first | apply Kd.S_alloc | apply Kd.S_drewN | apply Kd.S_drew)); exact O19_0.out) hb)
  have nO20_0 := Aside0.mk (Kd.R_below (by (with_reducible repeat (first | apply Kd.R_alloc | apply Kd.R_drewN | apply Kd.R_drew)); exact O20_0.out) hb)
  have nBA0 := Aside0.mk (blk_below (g := w.heap.size) (o := .cells #[.int .i64 a0_0, .int .i64 a0_1, .slice A0_2 l0_2.length c0_2] 24 (0, 0)) (by (with_reducible repeat (first | refine blk_drewN ?_ _ | refine blk_drew ?_ | refine blk_alloc ?_ _)); exact BA0.out) hb)
  clear HB O4_0 O7_0 O19_0 O20_0 BA0
  have HB := nB
  have O4_0 := nO4_0
  have O7_0 := nO7_0
  have O19_0 := nO19_0
  have O20_0 := nO20_0
  have BA0 := nBA0
  clear nB nO4_0 nO7_0 nO19_0 nO20_0 nBA0
  have Z21 := HSZ
  clear HSZ
  have cBA0_0 : w21.cell? ⟨w.heap.size, 0, none⟩ = some (.int .i64 a0_0) := (blk_cell BA0.out 0).trans rfl
  have cBA0_1 : w21.cell? ⟨w.heap.size, 1, none⟩ = some (.int .i64 a0_1) := (blk_cell BA0.out 1).trans rfl
  have cBA0_2 : w21.cell? ⟨w.heap.size, 2, none⟩ = some (.slice A0_2 l0_2.length c0_2) := (blk_cell BA0.out 2).trans rfl
  have O21_0 := NO21_0
  clear NO21_0
  clear O19_0 O20_0
  go_wp2_with fail
  clear cBA0_0 cBA0_1 cBA0_2
  refine (laws_eqIntSS.calls ke0 _ _ r0 _ _ r0 true _ (Kd.S_reads' (by (with_reducible repeat (first | apply Kd.S_alloc | apply Kd.S_drewN | apply Kd.S_drew)); exact O21_0.out)).2.2 (Kd.S_reads' O21_0.out).2.1 (Kd.S_reads' (by (with_reducible repeat (first | apply Kd.S_alloc | apply Kd.S_drewN | apply Kd.S_drew)); exact O4_0.out)).2.2 (Kd.S_reads' O4_0.out).2.1 hke0).mono ?_
  rintro e w22 ⟨rfl, hd⟩
  have hb := drawn_below hd
  clear hd
  have HSZ := Aside0.mk (show w21.heap.size + 0 ≤ w22.heap.size by have h_ := hb.size; (try simp at h_); omega)
  have nB := Aside0.mk (below_step (by repeat (first | (with_reducible first | exact HB.out | apply below_alloc | apply pw_below_drewN | apply below_drew1) | exact HB.out)) hb)
  have nO4_0 := Aside0.mk (Kd.S_below (by (with_reducible repeat (first | apply Kd.S_alloc | apply Kd.S_drewN | apply Kd.S_drew)); exact O4_0.out) hb)
  have nO7_0 := Aside0.mk (Kd.S_below (by (with_reducible repeat (first | apply Kd.S_alloc | apply Kd.S_drewN | apply Kd.S_drew)); exact O7_0.out) hb)
  have nO21_0 := Aside0.mk (Kd.S_below (by (with_reducible repeat (first | apply Kd.S_alloc | apply Kd.S_drewN | apply Kd.S_drew)); exact O21_0.out) hb)
  have nBA0 := Aside0.mk (blk_below (g := w.heap.size) (o := .cells #[.int .i64 a0_0, .int .i64 a0_1, .slice A0_2 l0_2.length c0_2] 24 (0, 0)) (by (with_reducible repeat (first | refine blk_drewN ?_ _ | refine blk_drew ?_ | refine blk_alloc ?_ _)); exact BA0.out) hb)
  clear HB O4_0 O7_0 O21_0 BA0
  have HB := nB
  have O4_0 := nO4_0
  have O7_0 := nO7_0
  have O21_0 := nO21_0
  have BA0 := nBA0
  clear nB nO4_0 nO7_0 nO21_0 nBA0
  have Z22 := HSZ
  clear HSZ
  have cBA0_0 : w22.cell? ⟨w.heap.size, 0, none⟩ = some (.int .i64 a0_0) := (blk_cell BA0.out 0).trans rfl
  have cBA0_1 : w22.cell? ⟨w.heap.size, 1, none⟩ = some (.int .i64 a0_1) := (blk_cell BA0.out 1).trans rfl
  have cBA0_2 : w22.cell? ⟨w.heap.size, 2, none⟩ = some (.slice A0_2 l0_2.length c0_2) := (blk_cell BA0.out 2).trans rfl
  go_wp2_with fail
  clear cBA0_0 cBA0_1 cBA0_2
  have CH := fun A_ c_ w_ hr_ hc_ => heldIntSS_calls  A_ c_ r0 (1) w_ hr_ hc_ (by omega) (by have := br0; omega) (by omega)
  rw [← Smm0.out] at CH
  refine (CH _ _ _ (Kd.S_reads' (by (with_reducible repeat (first | apply Kd.S_alloc | apply Kd.S_drewN | apply Kd.S_drew)); exact O7_0.out)).2.2 (Kd.S_reads' O7_0.out).2.1).mono ?_
  rintro e w23 ⟨rfl, hb⟩
  clear CH
  have HSZ := Aside0.mk (show w22.heap.size + 0 ≤ w23.heap.size by have h_ := hb.size; (try simp at h_); omega)
  have nB := Aside0.mk (below_step (by repeat (first | (with_reducible first | exact HB.out | apply below_alloc | apply pw_below_drewN | apply below_drew1) | exact HB.out)) hb)
  have nO4_0 := Aside0.mk (Kd.S_below (by (with_reducible repeat (first | apply Kd.S_alloc | apply Kd.S_drewN | apply Kd.S_drew)); exact O4_0.out) hb)
  have nO7_0 := Aside0.mk (Kd.S_below (by (with_reducible repeat (first | apply Kd.S_alloc | apply Kd.S_drewN | apply Kd.S_drew)); exact O7_0.out) hb)
  have nO21_0 := Aside0.mk (Kd.S_below (by (with_reducible repeat (first | apply Kd.S_alloc | apply Kd.S_drewN | apply Kd.S_drew)); exact O21_0.out) hb)
  have nBA0 := Aside0.mk (blk_below (g := w.heap.size) (o := .cells #[.int .i64 a0_0, .int .i64 a0_1, .slice A0_2 l0_2.length c0_2] 24 (0, 0)) (by (with_reducible repeat (first | refine blk_drewN ?_ _ | refine blk_drew ?_ | refine blk_alloc ?_ _)); exact BA0.out) hb)
  clear HB O4_0 O7_0 O21_0 BA0
  have HB := nB
  have O4_0 := nO4_0
  have O7_0 := nO7_0
  have O21_0 := nO21_0
  have BA0 := nBA0
  clear nB nO4_0 nO7_0 nO21_0 nBA0
  have Z23 := HSZ
  clear HSZ
  have cBA0_0 : w23.cell? ⟨w.heap.size, 0, none⟩ = some (.int .i64 a0_0) := (blk_cell BA0.out 0).trans rfl
  have cBA0_1 : w23.cell? ⟨w.heap.size, 1, none⟩ = some (.int .i64 a0_1) := (blk_cell BA0.out 1).trans rfl
  have cBA0_2 : w23.cell? ⟨w.heap.size, 2, none⟩ = some (.slice A0_2 l0_2.length c0_2) := (blk_cell BA0.out 2).trans rfl
  go_wp2
  go_ret
  exact ⟨rfl, by repeat (first | (with_reducible first | exact HB.out | apply below_alloc | apply pw_below_drewN | apply below_drew1) | exact HB.out)⟩
end Go.Proofs.Ytekoclhnfhbmeaa.P
namespace Go.Proofs.Ytekoclhnfhbmeaa.fnExactSpansOf
open Go.ChangeShapes Go.WideShapes Go.ChangeAt Go.RowKit
open Go.ChangeMaps (open_string shut_string)
set_option linter.unusedVariables false
theorem own : ownKnob Try.prog.godebug = none := by kernel_rfl
theorem laidOut : laidOutB Try.prog = true := by kernel_rfl
set_option maxRecDepth 100000 in
theorem lifted (os : Os) (started : os.Started) (H : Type) (enc : TypeId × Value → H) :
    ReturnsInHanded {} Try.checked os 8 .any (Rows.fnExactSpansOfSpec.pre6 enc Try.prog Try.f8 Rows.fnExactSpansOfRow.domain false) (Rows.fnExactSpansOfSpec.post enc Try.prog Try.f8 false true false false) := by
  refine returnsInHanded_of_change_sized (C := Try.checked) own started (by kernel_rfl) Try.func8
    (ChangeSpec.witness6 (enc := enc) (C := Try.checked) false ⟨#[], #[.agg #[.int .i64 0, .int .i64 0, .slice none 0 0], .slice none 0 0], []⟩ 8 (by kernel_rfl) (by kernel_rfl) (by kernel_rfl) (by kernel_rfl)) ?_
  intro W base args ds gs before hval0 hW hcnd hsz0 _
  have hval : ∀ (j : Nat) t v, Try.f8.params[j]? = some t → args[j]? = some v → Value.okWide Try.prog W .any base t v := hval0
  have hW' := hW
  obtain ⟨p, q, hA0, hV, rfl, hfz, hnd⟩ := hW
  have hA : DataW.TrodAll enc Try.prog W 0 (fun _ => true) true Try.f8.params.toList args.toList ds p := hA0
  rw [Try.params8] at hA hval
  obtain ⟨v0, vs0, d0, ds0, p0, q0, hargs, rfl, rfl, h0, r0⟩ := trodAll_cons hA
  obtain ⟨v1, vs1, d1, ds1, p1, q1, rfl, rfl, rfl, h1, r1⟩ := trodAll_cons r0
  obtain ⟨rfl, rfl, rfl⟩ := trodAll_nil r1
  obtain rfl : args = #[v0, v1] := by cases args; simp_all
  obtain ⟨rfl, rfl⟩ := trodVars_none hV
  have lt0 : ∀ x ∈ p0, x.block < W.heap.size := by obtain ⟨m, hm⟩ := h0; exact DataW.trod_lt m _ _ _ hm
  have k0 := h0
  obtain ⟨a0_0, a0_1, A0_2, c0_2, l0_2, rfl, hc0_2, hr0_2⟩ := Open.open_grammar (hval 0 24 v0 rfl rfl) h0
  have lt1 : ∀ x ∈ p1, x.block < W.heap.size := by obtain ⟨m, hm⟩ := h1; exact DataW.trod_lt m _ _ _ hm
  have k1 := h1
  obtain ⟨A1, c1, l1, rfl, hc1, hr1⟩ := Open.open_nums (hval 1 37 v1 rfl rfl) h1
  clear hA0 hval0 hsz0
  refine (P.holds_FnExactSpansOf W a0_0 a0_1 A0_2 c0_2 l0_2 hr0_2 hc0_2 A1 c1 l1 hr1 hc1).mono fun e W' ⟨he, bel⟩ => ?_
  subst he
  exact ⟨_, rfl, _, _, _, [], _, [], hW', trodAll_mk1 (shut_bool Try.underlying4 _), (trodAll_cons_mk (Below.trod laidOut (by kernel_rfl) (of_decide_eq_true (by kernel_rfl)) k0 bel lt0) (trodAll_cons_mk (Below.trod laidOut (by kernel_rfl) (of_decide_eq_true (by kernel_rfl)) k1 bel lt1) trodAll_mk0)), rfl, bel.frame _, fun h => by cases h⟩
theorem over : Rows.fnExactSpansOfRow.holds Try.pinned (OpenSpec.ofChange Rows.fnExactSpansOfSpec) :=
  OpenClaim.holds_of_wide 8 Try.f8 rfl rfl rfl rfl rfl rfl rfl ⟨rfl, rfl, rfl, rfl, rfl⟩ rfl rfl rfl rfl rfl (by kernel_rfl) Try.func8 (by kernel_rfl)
    (of_decide_eq_true (by kernel_rfl)) (by unfold Func.isWrapper; first | (rw [if_pos (by decide +kernel)]; kernel_rfl) | (rw [if_neg (by decide +kernel)]; exact ⟨rfl, rfl⟩))
    (fun os started H enc _ => lifted os started H enc)
theorem proved : Rows.FnExactSpansOfSaid := over
#print axioms proved
end Go.Proofs.Ytekoclhnfhbmeaa.fnExactSpansOf
namespace Go.Proofs.Ytekoclhnfhbmeaa
theorem fnExactSpansOf_holds : Rows.FnExactSpansOfSaid := fnExactSpansOf.proved
end Go.Proofs.Ytekoclhnfhbmeaa
