/- Proved: for all arguments ReadWord of the program returns what ReadWord of the reference returns; it leaves its arguments as they were, and shares no memory. No condition. -/
import Derived.Test.YtbcfoljdejmigaaK0
import Derived.Test.YtbcfoljdejmigaaB1
import Derived.Test.YtbcfoljdejmigaaB2
import Derived.Test.YtbcfoljdejmigaaRows
import Derived.WalkKit
import Derived.ProofKit
import Derived.OpenShut
import Derived.ShutString
import Derived.ChangeOld
import Derived.Below
import Derived.SizedLaws
/-! F30 -/
namespace Go.Proofs.Ytbcfoljdejmigaa.P
open Go.RowKit Go.Proofs.YtbcfoljdejmigaaW.PrintWords Go.Proofs.YtbcfoljdejmigaaW.PrintLast Go.Proofs.YtbcfoljdejmigaaW.PrintMore
attribute [local go_sem] max2_int min2_int max_two min_two max_three min_three max_four min_four   -- for this text's walks alone
set_option linter.unusedVariables false
set_option linter.unusedSimpArgs false

/-! ### laws_markIntS: function 30 -/
def laws_markIntS.l0 : Nat → List Int → Int → Int → Option (Int × List Int)
  | 0, _, _, _ => none
  | k + 1, x0, x1, x5 => if x5 < (x0.length : Int) then (if 0 ≤ x5 then (laws_markIntS.l0 k (x0.set (x5 : Int).toNat x1) (wrap64 (x1 + 1)) (wrap64 (x5 + 1))) else (none)) else (some (x1, x0))
def laws_markIntS.f (k : Nat) (l0 : List Int) (a1 : Int) : Option (Int × List Int) := laws_markIntS.l0 k l0 a1 0
theorem laws_markIntS.mono_l : ∀ k, (∀ y0 y1 y2, LeO (laws_markIntS.l0 k y0 y1 y2) (laws_markIntS.l0 (k + 1) y0 y1 y2))
  | 0 => fun _ _ _ r h => by simp [laws_markIntS.l0] at h
  | k + 1 => by
    have ih0 := laws_markIntS.mono_l k
    · intro y0 y1 y2
      unfold laws_markIntS.l0
      repeat' first
      | (with_reducible exact ih0 _ _ _)
      | (with_reducible exact LeO.refl _)
      | (with_reducible exact LeO.none _)
      | (with_reducible refine LeO.ite ?_ ?_)
      | (with_reducible refine LeO.bind ?_ (fun _ => ?_))
      | exact ih0 _ _ _
      | exact LeO.none _
      | refine LeO.ite ?_ ?_
      | refine LeO.bind ?_ (fun _ => ?_)
theorem laws_markIntS.mono : ∀ a0 a1 k, LeO (laws_markIntS.f k a0 a1) (laws_markIntS.f (k + 1) a0 a1) := by
  intro a0 a1 k
  have ih0 := laws_markIntS.mono_l k
  unfold laws_markIntS.f
  repeat' first
      | (with_reducible exact ih0 _ _ _)
      | (with_reducible exact LeO.refl _)
      | (with_reducible exact LeO.none _)
      | (with_reducible refine LeO.ite ?_ ?_)
      | (with_reducible refine LeO.bind ?_ (fun _ => ?_))
      | exact ih0 _ _ _
      | exact LeO.none _
      | refine LeO.ite ?_ ?_
      | refine LeO.bind ?_ (fun _ => ?_)
set_option maxHeartbeats 8000000 in
set_option maxRecDepth 100000 in
theorem laws_markIntS.calls (k : Nat) (P0_ : Nat → Prop) (u9000_ : Value) (l0 : List Int) (a1 : Int) (r1 : Int) (r2 : List Int) (w0 w : World) (hB : Below w0.heap.size w0 w) (ho0 : Kd.R (Kd.int .i64) 3 w w0.heap.size P0_ u9000_ l0) (h : laws_markIntS.f k l0 a1 = some (r1, r2)) :
    Calls Try.prog 30 #[u9000_, .int .i64 a1] w fun e w' => e = .returned (.int .i64 r1) ∧ Kd.R (Kd.int .i64) 3 w' w0.heap.size (fun k_ => (P0_ k_ ∨ w.heap.size ≤ k_)) u9000_ r2 ∧ Below w0.heap.size w0 w' ∧ Kept w w' (fun k_ => P0_ k_) := by
  have HO0 := Aside0.mk (show Kd.R (Kd.int .i64) 3 w w0.heap.size (fun k_ => (P0_ k_ ∨ w.heap.size ≤ k_)) u9000_ l0 from Kd.R_mono ho0 (fun k_ hk => (.inl hk)))
  have HK := Aside0.mk (Kept.refl w (fun k_ => P0_ k_))
  have HW0 := Aside0.mk hB.size
  have HB := Aside0.mk hB
  clear hB
  have H : (laws_markIntS.l0 k l0 a1 0) = some (r1, r2) := h
  clear h
  have H' := Aside0.mk H
  clear H
  go_enter Try.func30, Try.ntmps30
  go_wp2
  go_loopg [1, 5] k (fun kq v1 v5 w' => ∃ (x0_1 : List Int) (x1_1 : Int) (x5_1 : Int), v1 = .int .i64 x1_1 ∧ v5 = .int .i64 x5_1 ∧ Aside0 (laws_markIntS.l0 kq x0_1 x1_1 x5_1 = some (r1, r2)) ∧ Aside0 (kq ≤ k) ∧ Aside0 (Kd.R (Kd.int .i64) 3 w' w0.heap.size (fun k_ => (P0_ k_ ∨ w.heap.size ≤ k_)) u9000_ x0_1) ∧ Aside0 (Kept w w' (fun k_ => P0_ k_)) ∧ Aside0 (Below w0.heap.size w0 w'))
  case atStart => exact ⟨(l0), (a1), (0), (by first | rfl | (simp; done) | (simp [*]; done)), (by first | rfl | (simp; done) | (simp [*]; done)), H', ⟨Nat.le_refl _⟩, ⟨by (with_reducible repeat (first | apply Kd.R_alloc | apply Kd.R_drewN | apply Kd.R_drew)); exact HO0.out⟩, ⟨by repeat (first | (with_reducible first | exact HK.out | apply Kept.alloc | apply Kept.drewN | apply Kept.drew) | exact HK.out)⟩, ⟨by repeat (first | (with_reducible first | exact HB.out | apply below_alloc | apply pw_below_drewN | apply below_drew1) | exact HB.out)⟩⟩
  case round =>
    clear H'
    try clear p2
    obtain ⟨x0_1, x1_1, x5_1, rfl, rfl, HA, HK1, HO_0, HK, HB⟩ := hrel
    cases gk with
    | zero => exact absurd HA.out (by simp [laws_markIntS.l0])
    | succ k1 =>
      have H := HA.out
      clear HA
      simp only [laws_markIntS.l0] at H
      by_cases c3 : x5_1 < (x0_1.length : Int)
      · rw [if_pos c3] at H
        have c3b0 : decide (x5_1 < (x0_1.length : Int)) = true := decide_eq_true c3
        clear c3
        by_cases c4 : 0 ≤ x5_1
        · rw [if_pos c4] at H
          have c4b0 : decide (0 ≤ x5_1) = true := decide_eq_true c4
          clear c4
          obtain ⟨y101, hy101⟩ : ∃ y_ : List Int, y_ = (x0_1.set (x5_1 : Int).toNat x1_1) := ⟨_, rfl⟩
          replace H : (laws_markIntS.l0 k1 y101 (wrap64 (x1_1 + 1)) (wrap64 (x5_1 + 1))) = some (r1, r2) := by first | (rw [hy101]; with_reducible exact H) | (have H2_ := (Option.bind_some _ _).symm.trans H; rw [hy101]; with_reducible exact H2_) | (have H2_ := (Option.bind_some _ _).symm.trans H; with_reducible exact H2_) | with_reducible exact H | (rw [hy101]; exact H) | exact H
          have Ny101 := Aside0.mk hy101
          clear hy101
          have H' := Aside0.mk H
          clear H
          obtain ⟨Ao6, co6, eo6⟩ := Kd.R_slice HO_0.out
          subst eo6
          have p5 : 0 ≤ (x5_1 : Int) := of_decide_eq_true (by first | (with_reducible assumption) | assumption)
          have q5 : (x5_1 : Int) < ((x0_1.length : Int) : Int) := of_decide_eq_true (by first | (with_reducible assumption) | assumption)
          obtain ⟨go5, co5, eo5, gb5, gl5, cl5, HG5⟩ := Kd.R_form HO_0.out (by omega)
          (first | cases eo5 | (injection eo5 with ea_ en_ ec_; (first | subst ea_ | (injection ea_ with ea_; subst ea_)); subst ec_; clear en_))
          have GB5 := Aside0.mk gb5
          have GG5 := Aside0.mk HG5
          clear gb5 gl5 HG5
          have HMgo5 := Aside0.mk (show (P0_ go5 ∨ w.heap.size ≤ go5) from (HO_0.out.1 _ rfl))
          obtain ⟨hx5_0, hf5_0⟩ := Kd.R_celln 0 HO_0.out (x5_1 : Int) p5 q5
          replace p5 := eq_true p5
          replace q5 := eq_true q5
          have HP7 := Kd.R_putg HO_0.out (x5_1 : Int) x1_1
          go_wp2_with (first | ((with_reducible refine gate_store (t := 3) (p := 15) rfl ?_); refine store_event (t := 3) (p := 15) (v := ?vo_w8) (w1 := (wr.setCell ⟨go5, (x5_1 : Int).toNat, none⟩ (.int .i64 x1_1))) ?hg ?ho ?hn ?hr ?_; (case ho => rfl); (case hg => rfl); (case hn => rfl); (case hr => first | (go_simp; done) | (go_simp; rfl)); intro w8 hw; have hg : wr.grownBy w8 (some go5) := (by rw [hw]; exact HP7.2); have hp_ : Kd.R (Kd.int .i64) 3 w8 w0.heap.size (fun k_ => (P0_ k_ ∨ w.heap.size ≤ k_)) (.slice (some ⟨go5, 0, none⟩) x0_1.length co6) y101 := (by rw [hw, Ny101.out]; exact HP7.1); clear HP7; have n0_ := Aside0.mk (hp_); have n1_ := Aside0.mk ((by rw [hw]; exact below_set (HB.out) GB5.out : Below w0.heap.size w0 w8)); have n2_ := Aside0.mk (Kept.of_grown (S := (fun k_ => P0_ k_)) hg (by repeat (first | (with_reducible first | exact HK.out | apply Kept.alloc | apply Kept.drewN | apply Kept.drew) | exact HK.out)) (fun k_ e_ => (HO_0.out.1 k_ e_))); clear HO_0; clear HB; clear HK; have HO_0 := n0_; have HB := n1_; have HK := n2_; clear n0_ n1_ n2_; clear hg hw hp_))
          go_roundg k1
          case measure => have := HK1.out; omega
          case rel => exact ⟨(y101), (wrap64 (x1_1 + 1)), (wrap64 (x5_1 + 1)), (by first | rfl | (simp; done) | (simp [*]; done)), (by first | rfl | (simp; done) | (simp [*]; done)), H', ⟨by have := HK1.out; omega⟩, ⟨by (with_reducible repeat (first | apply Kd.R_alloc | apply Kd.R_drewN | apply Kd.R_drew)); exact HO_0.out⟩, ⟨by repeat (first | (with_reducible first | exact HK.out | apply Kept.alloc | apply Kept.drewN | apply Kept.drew) | exact HK.out)⟩, ⟨by repeat (first | (with_reducible first | exact HB.out | apply below_alloc | apply pw_below_drewN | apply below_drew1) | exact HB.out)⟩⟩
        · rw [if_neg c4] at H
          exact absurd H (by simp)
      · rw [if_neg c3] at H
        have c3b0 : decide (x5_1 < (x0_1.length : Int)) = false := decide_eq_false c3
        clear c3
        simp only [Option.some.injEq, Prod.mk.injEq] at H
        obtain ⟨rfl, rfl⟩ := H
        obtain ⟨Ao9, co9, eo9⟩ := Kd.R_slice HO_0.out
        subst eo9
        go_wp2
        go_ret
        exact ⟨by first | rfl | (simp [errW_none, errW_some] <;> rfl) | (simp [*, errW_none, errW_some] <;> rfl), by (with_reducible repeat (first | apply Kd.R_alloc | apply Kd.R_drewN | apply Kd.R_drew)); exact HO_0.out, by repeat (first | (with_reducible first | exact HB.out | apply below_alloc | apply pw_below_drewN | apply below_drew1) | exact HB.out), by repeat (first | (with_reducible first | exact HK.out | apply Kept.alloc | apply Kept.drewN | apply Kept.drew) | exact HK.out)⟩

end Go.Proofs.Ytbcfoljdejmigaa.P

/-! F31 -/
namespace Go.Proofs.Ytbcfoljdejmigaa.P
open Go.RowKit Go.Proofs.YtbcfoljdejmigaaW.PrintWords Go.Proofs.YtbcfoljdejmigaaW.PrintLast Go.Proofs.YtbcfoljdejmigaaW.PrintMore
attribute [local go_sem] max2_int min2_int max_two min_two max_three min_three max_four min_four   -- for this text's walks alone
set_option linter.unusedVariables false
set_option linter.unusedSimpArgs false

/-! ### laws_heldIntS: function 31 -/
def laws_heldIntS.l0 : Nat → List Int → Int → Int → Option (Int)
  | 0, _, _, _ => none
  | k + 1, x0, x1, x5 => if x5 < (x0.length : Int) then (if 0 ≤ x5 then (if (rd x0 x5) = x1 then (laws_heldIntS.l0 k x0 (wrap64 (x1 + 1)) (wrap64 (x5 + 1))) else (some (-1))) else (none)) else (some x1)
def laws_heldIntS.f (k : Nat) (l0 : List Int) (a1 : Int) : Option (Int) := laws_heldIntS.l0 k l0 a1 0
theorem laws_heldIntS.mono_l : ∀ k, (∀ y0 y1 y2, LeO (laws_heldIntS.l0 k y0 y1 y2) (laws_heldIntS.l0 (k + 1) y0 y1 y2))
  | 0 => fun _ _ _ r h => by simp [laws_heldIntS.l0] at h
  | k + 1 => by
    have ih0 := laws_heldIntS.mono_l k
    · intro y0 y1 y2
      unfold laws_heldIntS.l0
      repeat' first
      | (with_reducible exact ih0 _ _ _)
      | (with_reducible exact LeO.refl _)
      | (with_reducible exact LeO.none _)
      | (with_reducible refine LeO.ite ?_ ?_)
      | (with_reducible refine LeO.bind ?_ (fun _ => ?_))
      | exact ih0 _ _ _
      | exact LeO.none _
      | refine LeO.ite ?_ ?_
      | refine LeO.bind ?_ (fun _ => ?_)
theorem laws_heldIntS.mono : ∀ a0 a1 k, LeO (laws_heldIntS.f k a0 a1) (laws_heldIntS.f (k + 1) a0 a1) := by
  intro a0 a1 k
  have ih0 := laws_heldIntS.mono_l k
  unfold laws_heldIntS.f
  repeat' first
      | (with_reducible exact ih0 _ _ _)
      | (with_reducible exact LeO.refl _)
      | (with_reducible exact LeO.none _)
      | (with_reducible refine LeO.ite ?_ ?_)
      | (with_reducible refine LeO.bind ?_ (fun _ => ?_))
      | exact ih0 _ _ _
      | exact LeO.none _
      | refine LeO.ite ?_ ?_
      | refine LeO.bind ?_ (fun _ => ?_)
set_option maxHeartbeats 8000000 in
set_option maxRecDepth 100000 in
theorem laws_heldIntS.calls (k : Nat) (A0 : Option Addr) (c0 : Nat) (l0 : List Int) (a1 : Int) (r : Int) (w : World) (hr0 : Kd.C (Kd.int .i64) w A0 l0.length l0) (hc0 : l0.length ≤ c0) (h : laws_heldIntS.f k l0 a1 = some r) :
    Calls Try.prog 31 #[.slice A0 l0.length c0, .int .i64 a1] w fun e w' => e = .returned (.int .i64 r) ∧ Drawn0 w w' := by
  have HR0 := Aside0.mk hr0
  have HC0 := Aside0.mk hc0
  clear hr0 hc0
  have H : (laws_heldIntS.l0 k l0 a1 0) = some r := h
  clear h
  have H' := Aside0.mk H
  clear H
  go_enter Try.func31, Try.ntmps31
  go_wp2
  go_loopg [1, 5] k (fun kq v1 v5 w' => ∃ (x1_1 : Int) (x5_1 : Int), v1 = .int .i64 x1_1 ∧ v5 = .int .i64 x5_1 ∧ Aside0 (laws_heldIntS.l0 kq l0 x1_1 x5_1 = some r) ∧ Aside0 (kq ≤ k) ∧ Drawn0 w w')
  case atStart => exact ⟨(a1), (0), (by first | rfl | (simp; done) | (simp [*]; done)), (by first | rfl | (simp; done) | (simp [*]; done)), H', ⟨Nat.le_refl _⟩, by repeat (first | exact Drawn0.refl _ | apply Drawn0.step)⟩
  case round =>
    clear H'
    try clear p2
    obtain ⟨x1_1, x5_1, rfl, rfl, HA, HK1, ⟨m1, rfl⟩⟩ := hrel
    cases gk with
    | zero => exact absurd HA.out (by simp [laws_heldIntS.l0])
    | succ k1 =>
      have H := HA.out
      clear HA
      simp only [laws_heldIntS.l0] at H
      by_cases c3 : x5_1 < (l0.length : Int)
      · rw [if_pos c3] at H
        have c3b0 : decide (x5_1 < (l0.length : Int)) = true := decide_eq_true c3
        clear c3
        by_cases c4 : 0 ≤ x5_1
        · rw [if_pos c4] at H
          have c4b0 : decide (0 ≤ x5_1) = true := decide_eq_true c4
          clear c4
          by_cases c5 : (rd l0 x5_1) = x1_1
          · rw [if_pos c5] at H
            have c5b0 : ((rd l0 x5_1) == x1_1) = true := beq_iff_eq.mpr c5
            have c5b1 : ((rd l0 x5_1) != x1_1) = false := bne_eq_false_iff_eq.mpr c5
            clear c5
            have H' := Aside0.mk H
            clear H
            have p101 : 0 ≤ (x5_1 : Int) := of_decide_eq_true (by first | (with_reducible assumption) | assumption)
            have q101 : x5_1 < (l0.length : Int) := of_decide_eq_true (by first | (with_reducible assumption) | assumption)
            obtain ⟨ad101, e101, hx101_0⟩ := Kd.at_int HR0.out x5_1 p101 q101
            cases e101
            replace p101 := eq_true p101
            replace q101 := eq_true q101
            go_wp2
            go_roundg k1
            case measure => have := HK1.out; omega
            case rel => exact ⟨(wrap64 (x1_1 + 1)), (wrap64 (x5_1 + 1)), (by first | rfl | (simp; done) | (simp [*]; done)), (by first | rfl | (simp; done) | (simp [*]; done)), H', ⟨by have := HK1.out; omega⟩, by repeat (first | exact Drawn0.refl _ | apply Drawn0.step)⟩
          · rw [if_neg c5] at H
            have c5b0 : ((rd l0 x5_1) == x1_1) = false := beq_eq_false_iff_ne.mpr c5
            have c5b1 : ((rd l0 x5_1) != x1_1) = true := bne_iff_ne.mpr c5
            obtain rfl := Option.some.inj H
            have p101 : 0 ≤ (x5_1 : Int) := of_decide_eq_true (by first | (with_reducible assumption) | assumption)
            have q101 : x5_1 < (l0.length : Int) := of_decide_eq_true (by first | (with_reducible assumption) | assumption)
            obtain ⟨ad101, e101, hx101_0⟩ := Kd.at_int HR0.out x5_1 p101 q101
            cases e101
            replace p101 := eq_true p101
            replace q101 := eq_true q101
            go_wp2
            go_ret
            exact ⟨by first | rfl | (simp; done) | (simp [*]; done), by repeat (first | exact Drawn0.refl _ | apply Drawn0.step)⟩
        · rw [if_neg c4] at H
          exact absurd H (by simp)
      · rw [if_neg c3] at H
        have c3b0 : decide (x5_1 < (l0.length : Int)) = false := decide_eq_false c3
        clear c3
        obtain rfl := Option.some.inj H
        go_wp2
        go_ret
        exact ⟨by first | rfl | (simp; done) | (simp [*]; done), by repeat (first | exact Drawn0.refl _ | apply Drawn0.step)⟩

end Go.Proofs.Ytbcfoljdejmigaa.P

/-! Mk -/
/- The laws' marks: numbers written into a row of numbers, into a row of rules, into a grammar; and that they are found again. -/
namespace Go.Proofs.Ytbcfoljdejmigaa.P
open Go.RowKit Go.Proofs.YtbcfoljdejmigaaW.PrintWords Go.Proofs.YtbcfoljdejmigaaW.PrintLast Go.Proofs.YtbcfoljdejmigaaW.PrintMore
set_option linter.unusedVariables false
set_option linter.unusedSimpArgs false

/-- n, n + 1, ..: m numbers. -/
def ramp (n : Int) : Nat → List Int
  | 0 => []
  | m + 1 => ramp n m ++ [n + m]
theorem ramp_len (n : Int) (m : Nat) : (ramp n m).length = m := by
  induction m with
  | zero => rfl
  | succ m ih => simp [ramp, ih]
theorem ramp_get (n : Int) (m i : Nat) (h : i < m) : (ramp n m).getD i 0 = n + i := by
  induction m with
  | zero => omega
  | succ m ih =>
    simp only [ramp, List.getD_eq_getElem?_getD]
    by_cases e : i < m
    · rw [List.getElem?_append_left (by rw [ramp_len]; exact e), ← List.getD_eq_getElem?_getD]; exact ih e
    · obtain rfl : i = m := by omega
      rw [List.getElem?_append_right (by rw [ramp_len]; omega)]; simp [ramp_len]
theorem markIntS_loop (l : List Int) (hl : l.length ≤ 1152921504606846976) (n : Int) (hn : 0 ≤ n) (hn' : n ≤ 1152921504606846976) (d : Nat) : ∀ (k i : Nat), i ≤ l.length → l.length - i = d → d < k →
    laws_markIntS.l0 k (ramp n i ++ l.drop i) (n + i) i = some (n + (l.length : Int), ramp n l.length) := by
  induction d with
  | zero =>
    intro k i h1 hd hk
    obtain ⟨k, rfl⟩ : ∃ m, k = m + 1 := ⟨k - 1, by omega⟩
    obtain rfl : i = l.length := by omega
    simp only [laws_markIntS.l0]
    rw [if_neg (by simp [ramp_len])]
    simp
  | succ d ih =>
    intro k i h1 hd hk
    obtain ⟨k, rfl⟩ : ∃ m, k = m + 1 := ⟨k - 1, by omega⟩
    simp only [laws_markIntS.l0]
    rw [if_pos (by simp [ramp_len]; omega), if_pos (by omega)]
    have e1 : wrap64 ((i : Int) + 1) = ((i + 1 : Nat) : Int) := by unfold wrap64; omega
    have e2 : wrap64 (n + (i : Int) + 1) = n + ((i + 1 : Nat) : Int) := by unfold wrap64; omega
    have e3 : (ramp n i ++ l.drop i).set (i : Int).toNat (n + i) = ramp n (i + 1) ++ l.drop (i + 1) := by
      rw [getD_drop l i 0 (by omega), Int.toNat_natCast, set_mid _ _ _ _ _ (ramp_len n i)]
      simp [ramp]
    rw [e1, e2, e3]
    exact ih k (i + 1) (by omega) (by omega) (by omega)
theorem markIntS_eq (l : List Int) (hl : l.length ≤ 1152921504606846976) (n : Int) (hn : 0 ≤ n) (hn' : n ≤ 1152921504606846976) (k : Nat) (hk : l.length < k) : laws_markIntS.f k l n = some (n + (l.length : Int), ramp n l.length) := by
  have := markIntS_loop l hl n hn hn' l.length k 0 (by omega) (by omega) hk
  unfold laws_markIntS.f
  simpa [ramp] using this
theorem heldIntS_loop (m : Nat) (hm : m ≤ 1152921504606846976) (n : Int) (hn : 0 ≤ n) (hn' : n ≤ 1152921504606846976) (d : Nat) : ∀ (k i : Nat), i ≤ m → m - i = d → d < k →
    laws_heldIntS.l0 k (ramp n m) (n + i) i = some (n + (m : Int)) := by
  induction d with
  | zero =>
    intro k i h1 hd hk
    obtain ⟨k, rfl⟩ : ∃ m, k = m + 1 := ⟨k - 1, by omega⟩
    obtain rfl : i = m := by omega
    simp only [laws_heldIntS.l0]
    rw [if_neg (by simp [ramp_len])]
  | succ d ih =>
    intro k i h1 hd hk
    obtain ⟨k, rfl⟩ : ∃ m, k = m + 1 := ⟨k - 1, by omega⟩
    simp only [laws_heldIntS.l0]
    rw [if_pos (by simp [ramp_len]; omega), if_pos (by omega), if_pos (by unfold rd; simpa using ramp_get n m i (by omega))]
    have e1 : wrap64 ((i : Int) + 1) = ((i + 1 : Nat) : Int) := by unfold wrap64; omega
    have e2 : wrap64 (n + (i : Int) + 1) = n + ((i + 1 : Nat) : Int) := by unfold wrap64; omega
    rw [e1, e2]
    exact ih k (i + 1) (by omega) (by omega) (by omega)
theorem heldIntS_eq (m : Nat) (hm : m ≤ 1152921504606846976) (n : Int) (hn : 0 ≤ n) (hn' : n ≤ 1152921504606846976) (k : Nat) (hk : m < k) : laws_heldIntS.f k (ramp n m) n = some (n + (m : Int)) := by
  have := heldIntS_loop m hm n hn hn' m k 0 (by omega) (by omega) hk
  unfold laws_heldIntS.f
  simpa using this

/-- How many numbers a row of rules holds. -/
def szR : List S61 → Nat
  | [] => 0
  | r :: l => 1 + r.f1.length + szR l
/-- The row, marked from a on. -/
def mkR : List S61 → Int → List S61
  | [], _ => []
  | r :: l, a => ⟨a, ramp (a + 1) r.f1.length⟩ :: mkR l (a + 1 + r.f1.length)
theorem mkR_len (l : List S61) : ∀ a, (mkR l a).length = l.length := by
  induction l with
  | nil => intro a; rfl
  | cons r l ih => intro a; simp [mkR, ih]
theorem szR_append (l m : List S61) : szR (l ++ m) = szR l + szR m := by
  induction l with
  | nil => simp [szR]
  | cons r l ih => simp only [List.cons_append, szR, ih]; omega
theorem mkR_append (l m : List S61) : ∀ a, mkR (l ++ m) a = mkR l a ++ mkR m (a + szR l) := by
  induction l with
  | nil => intro a; simp [szR, mkR]
  | cons r l ih => intro a; simp only [List.cons_append, mkR, szR, ih]; congr 3; omega
theorem szR_take (l : List S61) (i : Nat) : szR (l.take i) ≤ szR l := by
  have := szR_append (l.take i) (l.drop i)
  rw [List.take_append_drop] at this
  omega
theorem szR_len (l : List S61) : l.length ≤ szR l := by
  induction l with
  | nil => simp [szR]
  | cons r l ih => simp only [List.length_cons, szR]; omega

theorem szR_small (l : List S61) (hs : ∀ i : Nat, i < l.length → (rd_T61 l i).f1.length ≤ 1048576) : szR l ≤ l.length * 1048577 := by
  induction l with
  | nil => simp [szR]
  | cons r l ih =>
    have h0 := hs 0 (by simp)
    have h1 := ih (fun i hi => by
      have := hs (i + 1) (by simp; omega)
      have e : rd_T61 (r :: l) ((i + 1 : Nat) : Int) = rd_T61 l (i : Int) := by unfold rd_T61; simp
      rw [e] at this; exact this)
    have e0 : (rd_T61 (r :: l) ((0 : Nat) : Int)) = r := by unfold rd_T61; simp
    rw [e0] at h0
    simp only [szR, List.length_cons]
    omega
theorem szR_bound {l : List S61} (hs : smallI l) : (szR l : Int) ≤ 1152921504606846 := by
  have h1 := szR_small l hs.2
  have h2 := hs.1
  have : l.length * 1048577 ≤ 1048576 * 1048577 := Nat.mul_le_mul_right _ h2
  omega

/-- A row of numbers of the call's own, marked. -/
theorem markIntS_calls (P0_ : Nat → Prop) (u : Value) (l0 : List Int) (a1 : Int) (w0 w : World) (hB : Below w0.heap.size w0 w) (ho0 : Kd.R (Kd.int .i64) 3 w w0.heap.size P0_ u l0) (ha : 0 ≤ a1) (hs : a1 + (l0.length : Int) ≤ 1152921504606846976) :
    Calls Try.prog 30 #[u, .int .i64 a1] w fun e w' => e = .returned (.int .i64 (a1 + (l0.length : Int))) ∧ Kd.R (Kd.int .i64) 3 w' w0.heap.size P0_ u (ramp a1 l0.length) ∧ Below w0.heap.size w0 w' ∧ Kept w w' P0_ := by
  refine (laws_markIntS.calls (l0.length + 1) P0_ u l0 a1 _ _ w0 w hB ho0 (markIntS_eq l0 (by omega) a1 ha (by omega) (l0.length + 1) (by omega))).mono ?_
  rintro e w' ⟨he, ho, hb, hk⟩
  exact ⟨he, Kd.R_mono (Kd.R_tight rfl ho) (fun q hq => ho0.1 q hq.symm), hb, hk⟩
/-- The marks are found again. -/
theorem heldIntS_calls (A : Option Addr) (c : Nat) (l : List Int) (a1 : Int) (w : World) (hr : Kd.C (Kd.int .i64) w A (ramp a1 l.length).length (ramp a1 l.length)) (hc : l.length ≤ c) (ha : 0 ≤ a1) (hs : a1 + (l.length : Int) ≤ 1152921504606846976) :
    Calls Try.prog 31 #[.slice A l.length c, .int .i64 a1] w fun e w' => e = .returned (.int .i64 (a1 + (l.length : Int))) ∧ Below w.heap.size w w' := by
  have H := laws_heldIntS.calls (l.length + 1) A c (ramp a1 l.length) a1 (a1 + (l.length : Int)) w hr (by rw [ramp_len]; exact hc) (heldIntS_eq l.length (by omega) a1 ha (by omega) (l.length + 1) (by omega))
  rw [ramp_len] at H
  refine H.mono ?_
  rintro e w' ⟨he, n, rfl⟩
  exact ⟨he, pw_below_drewN (Below.refl _ _) n⟩

set_option maxHeartbeats 4000000 in
set_option maxRecDepth 100000 in
theorem markRuleS_calls (P0_ : Nat → Prop) (u : Value) (l0 : List S61) (a1 : Int) (w0 w : World) (hB : Below w0.heap.size w0 w) (ho0 : Kd.S k61 61 w w0.heap.size P0_ u l0)
    (ha : 0 ≤ a1) (hs : a1 + szR l0 ≤ 1152921504606846976) :
    Calls Try.prog 58 #[u, .int .i64 a1] w fun e w' => e = .returned (.int .i64 (a1 + szR l0)) ∧ Kd.S k61 61 w' w0.heap.size P0_ u (mkR l0 a1) ∧ Below w0.heap.size w0 w' ∧ Kept w w' P0_ := by
  have HO := Aside0.mk ho0
  have HB := Aside0.mk hB
  have HW := Aside0.mk hB.size
  have hlen := szR_len l0
  have HS := Aside0.mk hs
  clear ho0 hB hs
  go_enter Try.func58, Try.ntmps58
  go_wp2
  go_loopg [1, 5] l0.length (fun gg s1 s5 wr => ∃ kk : Nat, kk ≤ l0.length ∧ l0.length - kk ≤ gg ∧ s5 = .int .i64 kk ∧ s1 = .int .i64 (a1 + szR (l0.take kk)) ∧ Aside0 (Kd.S k61 61 wr w0.heap.size P0_ u (mkR (l0.take kk) a1 ++ l0.drop kk)) ∧ Aside0 (Below w0.heap.size w0 wr) ∧ Aside0 (Kept w wr P0_))
  case atStart => exact ⟨0, Nat.zero_le _, by omega, rfl, by simp [szR], ⟨by simpa [mkR] using HO.out⟩, HB, ⟨Kept.refl _ _⟩⟩
  case round =>
    clear HO HB
    obtain ⟨kk, hkk, hg, rfl, rfl, HO, HB, HK⟩ := hrel
    have hb1 := szR_take l0 kk
    by_cases hlt : kk < l0.length
    · obtain ⟨y, hy⟩ : ∃ y, y = l0.getD kk z61 := ⟨_, rfl⟩
      have ed := getD_drop l0 kk z61 hlt
      have et := take_getD l0 kk z61 hlt
      rw [← hy] at ed et
      have esz : szR (l0.take (kk + 1)) = szR (l0.take kk) + (1 + y.f1.length) := by rw [et, szR_append]; simp [szR]
      have hb2 := szR_take l0 (kk + 1)
      have emk : ∀ z, z = (⟨a1 + szR (l0.take kk), ramp (a1 + szR (l0.take kk) + 1) y.f1.length⟩ : S61) → (mkR (l0.take kk) a1 ++ l0.drop kk).set kk z = mkR (l0.take (kk + 1)) a1 ++ l0.drop (kk + 1) := by
        rintro z rfl
        rw [ed, set_mid _ _ _ _ _ (by rw [mkR_len, List.length_take]; omega), et, mkR_append]
        simp [mkR]
      have elen : (mkR (l0.take kk) a1 ++ l0.drop kk).length = l0.length := by rw [List.length_append, mkR_len, List.length_take, List.length_drop]; omega
      have eget : (mkR (l0.take kk) a1 ++ l0.drop kk).getD kk z61 = y := by
        rw [ed, List.getD_eq_getElem?_getD, List.getElem?_append_right (by rw [mkR_len, List.length_take]; omega), mkR_len, List.length_take, Nat.min_eq_left hkk, Nat.sub_self]; rfl
      have EM := Aside0.mk emk
      have ES := Aside0.mk esz
      have LN := Aside0.mk elen
      clear emk esz ed et hy
      obtain ⟨xs, hxs⟩ : ∃ xs, xs = mkR (l0.take kk) a1 ++ l0.drop kk := ⟨_, rfl⟩
      rw [← hxs] at HO EM LN eget
      obtain ⟨go, co, eo, gb, gl, cl, HG⟩ := Kd.S_form HO.out (by rw [LN.out]; omega)
      subst eo
      obtain ⟨oki, c, hcl, hM, hcc, hfr, hoki, hH⟩ := Kd.S_elem HO.out z61 (kk : Int) (by omega) (by rw [LN.out]; omega)
      rw [Int.toNat_natCast, eget] at hM
      obtain ⟨v1, rfl, hR⟩ := k61_openM hM
      have hx0 : wr.cell? ⟨go, kk * 2, none⟩ = some (.int .i64 y.f0) := hcc 0 _ rfl
      have hx1 : wr.cell? ⟨go, kk * 2 + 1, none⟩ = some v1 := hcc 1 _ rfl
      have hf0 : wr.frozen? ⟨go, kk * 2, none⟩ = false := hfr 0
      have hP : P0_ go := (Kd.S_R HO.out).1 go rfl
      obtain ⟨s, hs⟩ : ∃ s : Int, s = a1 + szR (l0.take kk) := ⟨_, rfl⟩
      rw [← hs] at EM
      rw [← hs]
      have hs0 : 0 ≤ s := by omega
      have hs1 : s ≤ 1152921504606846976 := by have := HS.out; omega
      have hyl : y.f1.length ≤ 1152921504606846976 := by have := HS.out; have := ES.out; omega
      have hs2 : s + 1 ≤ 1152921504606846976 := by have := HS.out; have := ES.out; omega
      have hsz : xs.length = l0.length := LN.out
      have hd : decide (kk < xs.length) = true := decide_eq_true (by omega)
      have hlt2 : kk < xs.length := by omega
      have hmx : xs.length ≤ 9223372036854775807 := by have := HS.out; omega
      have GB := Aside0.mk gb
      have HH := Aside0.mk hH
      have HR := Aside0.mk hR
      have OI := Aside0.mk hoki
      have PG := Aside0.mk hP
      have L := Aside0.mk hlt
      have SV := Aside0.mk hs
      have EMM := EM
      clear hcl hcc hfr hM hH hR hoki hP gb gl HG eget hs hlt hxs EM hsz
      go_wp2_with (go_at_call 30; refine (laws_markIntS.calls (y.f1.length + 1) oki v1 y.f1 (s + 1) _ _ w0 _ (below_set HB.out GB.out) (Kd.R_far HR.out (fun k hk => (OI.out k hk).2) _) (markIntS_eq y.f1 hyl (s + 1) (by omega) hs2 (y.f1.length + 1) (by omega))).mono ?_; rintro e w' ⟨rfl, ho, hb, hk⟩; have NB := Aside0.mk hb; have NO := Aside0.mk ho; have NK := Aside0.mk hk; clear ho hb hk)
      go_roundg (l0.length - (kk + 1))
      case measure => have := L.out; omega
      case rel =>
        refine ⟨kk + 1, by have := L.out; omega, by omega, by go_num, ?_, ?_, NB, ?_⟩
        · rw [ES.out]
          have := SV.out
          congr 1
          omega
        · have H1 := (Kd.H_seg HH.out (by omega) (by omega) (seg := [.int .i64 s]) (j := 0) (show 0 + 1 ≤ 2 by decide) (by intro q hq; rw [List.mem_singleton.1 hq]; rfl)).1
          have H2 := Kd.H_kept H1 NK.out (fun k _ hno hs => hno hs)
          have hR1 := HR.out.1
          have H3 := Kd.H_back H2 (x' := ⟨s, ramp (s + 1) y.f1.length⟩) (k61_mkM _ _ _ (⟨s, ramp (s + 1) y.f1.length⟩ : S61) (Kd.R_mono (Kd.R_tight rfl NO.out) (fun q hq => hR1 q hq.symm))) (fun _ h => h)
          rw [Int.toNat_natCast, EMM.out _ rfl] at H3
          exact ⟨H3⟩
        · exact ⟨(Kept.setCell HK.out (.inl PG.out) _).then_ NK.out (fun k hk => .inl (OI.out k hk).1)⟩
    · have e : kk = l0.length := by omega
      obtain ⟨xs, hxs⟩ : ∃ xs, xs = mkR (l0.take kk) a1 ++ l0.drop kk := ⟨_, rfl⟩
      have hfin : xs = mkR l0 a1 := by rw [hxs, e, List.take_of_length_le (Nat.le_refl _), List.drop_of_length_le (Nat.le_refl _), List.append_nil]
      have hsum : szR (l0.take kk) = szR l0 := by rw [e, List.take_of_length_le (Nat.le_refl _)]
      have hln : xs.length = l0.length := by rw [hfin, mkR_len]
      rw [← hxs] at HO
      obtain ⟨A, c, eu⟩ := Kd.R_slice (Kd.S_R HO.out)
      subst eu
      have hd : decide (kk < xs.length) = false := decide_eq_false (by omega)
      have F := Aside0.mk hfin
      have SU := Aside0.mk hsum
      clear hfin hxs hlt e hln hsum
      go_wp2
      go_ret
      refine ⟨by rw [← SU.out]; rfl, by rw [← F.out]; exact HO.out, HB.out, HK.out⟩

set_option maxHeartbeats 4000000 in
set_option maxRecDepth 100000 in
theorem markGrammar_calls (P0_ : Nat → Prop) (a0 a1 : Int) (u : Value) (l0 : List S61) (k : Int) (w0 w : World) (hB : Below w0.heap.size w0 w) (ho0 : Kd.S k61 61 w w0.heap.size P0_ u l0)
    (ha : 0 ≤ k) (hs : k + szR l0 ≤ 1152921504606846976) :
    Calls Try.prog 29 #[.agg #[.int .i64 a0, .int .i64 a1, u], .int .i64 k] w fun e w' => e = .returned (.int .i64 (k + szR l0)) ∧ Kd.S k61 61 w' w0.heap.size P0_ u (mkR l0 k) ∧ Below w0.heap.size w0 w' ∧ Kept w w' P0_ := by
  obtain ⟨A, c, eu⟩ := Kd.R_slice (Kd.S_R ho0)
  subst eu
  have hu := Try.underlying29
  have HO := Aside0.mk ho0
  have HB := Aside0.mk hB
  have HS := Aside0.mk hs
  have HA := Aside0.mk ha
  clear ho0 hB hs ha
  go_enter Try.func29, Try.ntmps29
  go_wp2_with (go_at_call 58; refine (markRuleS_calls P0_ _ l0 k w0 _ (by repeat (first | exact HB.out | apply below_alloc)) (by repeat (first | exact HO.out | apply Kd.S_alloc)) HA.out HS.out).mono ?_; rintro e w' ⟨rfl, ho, hb, hk⟩; have NB := Aside0.mk hb; have NO := Aside0.mk ho; have NK := Aside0.mk hk; clear ho hb hk)
  go_ret
  exact ⟨rfl, NO.out, NB.out, (Kept.alloc (Kept.refl _ _) _).then_ NK.out (fun q hq => .inl hq)⟩
end Go.Proofs.Ytbcfoljdejmigaa.P

/-! Ps -/
/- The size of a grammar, from whatever left. -/
namespace Go.Proofs.Ytbcfoljdejmigaa.P
open Go.RowKit Go.Proofs.YtbcfoljdejmigaaW.PrintWords
set_option linter.unusedVariables false
set_option linter.unusedSimpArgs false
theorem szGrammar_fr (a0 a1 : Int) (l : List S88) (hl : l.length ≤ 9223372036854775807) (hr : ∀ i : Nat, i < l.length → (rd_T88 l i).f1.length ≤ 9223372036854775807) (a : Int) (ha : 0 ≤ a) (ha2 : a ≤ 1048576) :
    ∃ t, Ev (fun k => laws_szGrammar.f k a0 a1 l a) t ∧ t ≤ 1048576 ∧ (0 ≤ t → smallG l) := by
  by_cases hs : a - l.length < 0
  · refine ⟨-1, ⟨0, fun k hk => ?_⟩, by omega, fun h => by omega⟩
    dsimp only
    unfold laws_szGrammar.f laws_szRuleS.f
    rw [w64 (by omega) (by omega), if_pos hs]; rfl
  · obtain ⟨t, ⟨K, ht⟩, hsm⟩ := szRuleS_loop l hl hr l.length 0 (a - l.length) (by omega) (by omega) (by omega) (by omega)
    try dsimp only at ht
    by_cases h0 : t < 0
    · refine ⟨-1, ⟨K, fun k hk => ?_⟩, by omega, fun h => by omega⟩
      dsimp only
      unfold laws_szGrammar.f laws_szRuleS.f
      rw [w64 (by omega) (by omega), if_neg hs, show ((0 : Int)) = ((0 : Nat) : Int) from rfl, ht k hk]; simp only [Option.bind_some]
      rw [if_pos (by omega)]
    · refine ⟨t, ⟨K, fun k hk => ?_⟩, (hsm (by omega)).1, fun h => ⟨by omega, fun j hj => (hsm h).2 j (by omega) hj⟩⟩
      dsimp only
      unfold laws_szGrammar.f laws_szRuleS.f
      rw [w64 (by omega) (by omega), if_neg hs, show ((0 : Int)) = ((0 : Nat) : Int) from rfl, ht k hk]; simp only [Option.bind_some]
      rw [if_neg (by omega)]
end Go.Proofs.Ytbcfoljdejmigaa.P

/-! F59 -/
namespace Go.Proofs.Ytbcfoljdejmigaa.P
open Go.RowKit Go.Proofs.YtbcfoljdejmigaaW.PrintWords Go.Proofs.YtbcfoljdejmigaaW.PrintLast Go.Proofs.YtbcfoljdejmigaaW.PrintMore
attribute [local go_sem] max2_int min2_int max_two min_two max_three min_three max_four min_four   -- for this text's walks alone
set_option linter.unusedVariables false
set_option linter.unusedSimpArgs false

/-! ### spec_l2Symbol: function 59 -/
mutual
def spec_l2Symbol.l0 : Nat → Int → Int → Int → Int → Option (Int × Bool)
  | 0, _, _, _, _ => none
  | k + 1, x0, x1, x2, x8 => if x8 < x0 then (if 0 ≤ x8 then (if x8 < 6 then (if (bt (⟨#[83, 65, 66, 67, 68, 69]⟩ : ByteArray) x8) = x2 then (some (x8, true)) else (spec_l2Symbol.l0 k x0 x1 x2 (wrap64 (x8 + 1)))) else (none)) else (none)) else (spec_l2Symbol.l1 k x1 x2 0)
def spec_l2Symbol.l1 : Nat → Int → Int → Int → Option (Int × Bool)
  | 0, _, _, _ => none
  | k + 1, x1, x2, x9 => if x9 < x1 then (if 0 ≤ x9 then (if x9 < 4 then (if (bt (⟨#[97, 98, 99, 100]⟩ : ByteArray) x9) = x2 then (some (wrap64 ((-1) - x9), true)) else (spec_l2Symbol.l1 k x1 x2 (wrap64 (x9 + 1)))) else (none)) else (none)) else (some (0, false))
end
def spec_l2Symbol.f (k : Nat) (a0 : Int) (a1 : Int) (a2 : Int) : Option (Int × Bool) := spec_l2Symbol.l0 k a0 a1 a2 0
theorem spec_l2Symbol.mono_l : ∀ k, (∀ y0 y1 y2 y3, LeO (spec_l2Symbol.l0 k y0 y1 y2 y3) (spec_l2Symbol.l0 (k + 1) y0 y1 y2 y3)) ∧ (∀ y0 y1 y2, LeO (spec_l2Symbol.l1 k y0 y1 y2) (spec_l2Symbol.l1 (k + 1) y0 y1 y2))
  | 0 => ⟨fun _ _ _ _ r h => by simp [spec_l2Symbol.l0] at h, fun _ _ _ r h => by simp [spec_l2Symbol.l1] at h⟩
  | k + 1 => by
    obtain ⟨ih0, ih1⟩ := spec_l2Symbol.mono_l k
    refine ⟨?_, ?_⟩
    · intro y0 y1 y2 y3
      unfold spec_l2Symbol.l0
      repeat' first
      | (with_reducible exact ih0 _ _ _ _)
      | (with_reducible exact ih1 _ _ _)
      | (with_reducible exact LeO.refl _)
      | (with_reducible exact LeO.none _)
      | (with_reducible refine LeO.ite ?_ ?_)
      | (with_reducible refine LeO.bind ?_ (fun _ => ?_))
      | exact ih0 _ _ _ _
      | exact ih1 _ _ _
      | exact LeO.none _
      | refine LeO.ite ?_ ?_
      | refine LeO.bind ?_ (fun _ => ?_)
    · intro y0 y1 y2
      unfold spec_l2Symbol.l1
      repeat' first
      | (with_reducible exact ih0 _ _ _ _)
      | (with_reducible exact ih1 _ _ _)
      | (with_reducible exact LeO.refl _)
      | (with_reducible exact LeO.none _)
      | (with_reducible refine LeO.ite ?_ ?_)
      | (with_reducible refine LeO.bind ?_ (fun _ => ?_))
      | exact ih0 _ _ _ _
      | exact ih1 _ _ _
      | exact LeO.none _
      | refine LeO.ite ?_ ?_
      | refine LeO.bind ?_ (fun _ => ?_)
theorem spec_l2Symbol.mono : ∀ a0 a1 a2 k, LeO (spec_l2Symbol.f k a0 a1 a2) (spec_l2Symbol.f (k + 1) a0 a1 a2) := by
  intro a0 a1 a2 k
  obtain ⟨ih0, ih1⟩ := spec_l2Symbol.mono_l k
  unfold spec_l2Symbol.f
  repeat' first
      | (with_reducible exact ih0 _ _ _ _)
      | (with_reducible exact ih1 _ _ _)
      | (with_reducible exact LeO.refl _)
      | (with_reducible exact LeO.none _)
      | (with_reducible refine LeO.ite ?_ ?_)
      | (with_reducible refine LeO.bind ?_ (fun _ => ?_))
      | exact ih0 _ _ _ _
      | exact ih1 _ _ _
      | exact LeO.none _
      | refine LeO.ite ?_ ?_
      | refine LeO.bind ?_ (fun _ => ?_)
set_option maxHeartbeats 8000000 in
set_option maxRecDepth 100000 in
theorem spec_l2Symbol.calls (k : Nat) (a0 : Int) (a1 : Int) (a2 : Int) (r1 : Int) (r2 : Bool) (w : World) (h : spec_l2Symbol.f k a0 a1 a2 = some (r1, r2)) :
    Calls Try.prog 59 #[.int .i64 a0, .int .i64 a1, .int .u8 a2] w fun e w' => e = .returned (.tuple #[.int .i64 r1, .bool r2]) ∧ Drawn0 w w' := by
  have H : (spec_l2Symbol.l0 k a0 a1 a2 0) = some (r1, r2) := h
  clear h
  have H' := Aside0.mk H
  clear H
  go_enter Try.func59, Try.ntmps59
  go_wp2
  go_loopg [8] k (fun kq v8 w' => ∃ (x8_1 : Int), v8 = .int .i64 x8_1 ∧ Aside0 (spec_l2Symbol.l0 kq a0 a1 a2 x8_1 = some (r1, r2)) ∧ Aside0 (kq ≤ k) ∧ Drawn0 w w')
  case atStart => exact ⟨(0), (by first | rfl | (simp; done) | (simp [*]; done)), H', ⟨Nat.le_refl _⟩, by repeat (first | exact Drawn0.refl _ | apply Drawn0.step)⟩
  case round =>
    clear H'
    try clear p2
    obtain ⟨x8_1, rfl, HA, HK1, ⟨m1, rfl⟩⟩ := hrel
    cases gk with
    | zero => exact absurd HA.out (by simp [spec_l2Symbol.l0])
    | succ k1 =>
      have H := HA.out
      clear HA
      simp only [spec_l2Symbol.l0] at H
      by_cases c4 : x8_1 < a0
      · rw [if_pos c4] at H
        have c4b0 : decide (x8_1 < a0) = true := decide_eq_true c4
        clear c4
        by_cases c5 : 0 ≤ x8_1
        · rw [if_pos c5] at H
          have c5b0 : decide (0 ≤ x8_1) = true := decide_eq_true c5
          clear c5
          by_cases c6 : x8_1 < 6
          · rw [if_pos c6] at H
            have c6b0 : decide (x8_1 < 6) = true := decide_eq_true c6
            clear c6
            by_cases c8 : (bt (⟨#[83, 65, 66, 67, 68, 69]⟩ : ByteArray) x8_1) = a2
            · rw [if_pos c8] at H
              have c8b0 : ((bt (⟨#[83, 65, 66, 67, 68, 69]⟩ : ByteArray) x8_1) == a2) = true := beq_iff_eq.mpr c8
              have c8b1 : ((bt (⟨#[83, 65, 66, 67, 68, 69]⟩ : ByteArray) x8_1) != a2) = false := bne_eq_false_iff_eq.mpr c8
              clear c8
              simp only [Option.some.injEq, Prod.mk.injEq] at H
              obtain ⟨rfl, rfl⟩ := H
              have p7 : 0 ≤ (x8_1 : Int) := of_decide_eq_true (by first | (with_reducible assumption) | assumption)
              have q7 : x8_1 < (6 : Int) := of_decide_eq_true (by first | (with_reducible assumption) | assumption)
              have hx7 := bt_at (⟨#[83, 65, 66, 67, 68, 69]⟩ : ByteArray) x8_1
              replace p7 := eq_true p7
              replace q7 := eq_true q7
              go_wp2
              go_ret2
              exact ⟨by first | rfl | (simp; done) | (simp [*]; done), by repeat (first | exact Drawn0.refl _ | apply Drawn0.step)⟩
            · rw [if_neg c8] at H
              have c8b0 : ((bt (⟨#[83, 65, 66, 67, 68, 69]⟩ : ByteArray) x8_1) == a2) = false := beq_eq_false_iff_ne.mpr c8
              have c8b1 : ((bt (⟨#[83, 65, 66, 67, 68, 69]⟩ : ByteArray) x8_1) != a2) = true := bne_iff_ne.mpr c8
              have H' := Aside0.mk H
              clear H
              have p7 : 0 ≤ (x8_1 : Int) := of_decide_eq_true (by first | (with_reducible assumption) | assumption)
              have q7 : x8_1 < (6 : Int) := of_decide_eq_true (by first | (with_reducible assumption) | assumption)
              have hx7 := bt_at (⟨#[83, 65, 66, 67, 68, 69]⟩ : ByteArray) x8_1
              replace p7 := eq_true p7
              replace q7 := eq_true q7
              go_wp2
              go_roundg k1
              case measure => have := HK1.out; omega
              case rel => exact ⟨(wrap64 (x8_1 + 1)), (by first | rfl | (simp; done) | (simp [*]; done)), H', ⟨by have := HK1.out; omega⟩, by repeat (first | exact Drawn0.refl _ | apply Drawn0.step)⟩
          · rw [if_neg c6] at H
            exact absurd H (by simp)
        · rw [if_neg c5] at H
          exact absurd H (by simp)
      · rw [if_neg c4] at H
        have c4b0 : decide (x8_1 < a0) = false := decide_eq_false c4
        clear c4
        have H' := Aside0.mk H
        clear H
        go_wp2
        go_loopg [9] k1 (fun kq v9 w' => ∃ (x9_2 : Int), v9 = .int .i64 x9_2 ∧ Aside0 (spec_l2Symbol.l1 kq a1 a2 x9_2 = some (r1, r2)) ∧ Aside0 (kq ≤ k1) ∧ Drawn0 w w')
        case atStart => exact ⟨(0), (by first | rfl | (simp; done) | (simp [*]; done)), H', ⟨Nat.le_refl _⟩, by repeat (first | exact Drawn0.refl _ | apply Drawn0.step)⟩
        case round =>
          clear H'
          try clear p2
          try clear c4
          try clear c4b0
          try clear c5
          try clear c5b0
          try clear c6
          try clear c6b0
          try clear p6
          try clear p7
          try clear q7
          try clear hx7
          try clear c8
          try clear c8b0
          try clear c8b1
          try clear p2
          try clear p7
          try clear q7
          obtain ⟨x9_2, rfl, HA, HK2, ⟨m2, rfl⟩⟩ := hrel
          cases gk with
          | zero => exact absurd HA.out (by simp [spec_l2Symbol.l1])
          | succ k2 =>
            have H := HA.out
            clear HA
            simp only [spec_l2Symbol.l1] at H
            by_cases c9 : x9_2 < a1
            · rw [if_pos c9] at H
              have c9b0 : decide (x9_2 < a1) = true := decide_eq_true c9
              clear c9
              by_cases c10 : 0 ≤ x9_2
              · rw [if_pos c10] at H
                have c10b0 : decide (0 ≤ x9_2) = true := decide_eq_true c10
                clear c10
                by_cases c11 : x9_2 < 4
                · rw [if_pos c11] at H
                  have c11b0 : decide (x9_2 < 4) = true := decide_eq_true c11
                  clear c11
                  by_cases c13 : (bt (⟨#[97, 98, 99, 100]⟩ : ByteArray) x9_2) = a2
                  · rw [if_pos c13] at H
                    have c13b0 : ((bt (⟨#[97, 98, 99, 100]⟩ : ByteArray) x9_2) == a2) = true := beq_iff_eq.mpr c13
                    have c13b1 : ((bt (⟨#[97, 98, 99, 100]⟩ : ByteArray) x9_2) != a2) = false := bne_eq_false_iff_eq.mpr c13
                    clear c13
                    simp only [Option.some.injEq, Prod.mk.injEq] at H
                    obtain ⟨rfl, rfl⟩ := H
                    have p12 : 0 ≤ (x9_2 : Int) := of_decide_eq_true (by first | (with_reducible assumption) | assumption)
                    have q12 : x9_2 < (4 : Int) := of_decide_eq_true (by first | (with_reducible assumption) | assumption)
                    have hx12 := bt_at (⟨#[97, 98, 99, 100]⟩ : ByteArray) x9_2
                    replace p12 := eq_true p12
                    replace q12 := eq_true q12
                    go_wp2
                    go_ret2
                    exact ⟨by first | rfl | (simp; done) | (simp [*]; done), by repeat (first | exact Drawn0.refl _ | apply Drawn0.step)⟩
                  · rw [if_neg c13] at H
                    have c13b0 : ((bt (⟨#[97, 98, 99, 100]⟩ : ByteArray) x9_2) == a2) = false := beq_eq_false_iff_ne.mpr c13
                    have c13b1 : ((bt (⟨#[97, 98, 99, 100]⟩ : ByteArray) x9_2) != a2) = true := bne_iff_ne.mpr c13
                    have H' := Aside0.mk H
                    clear H
                    have p12 : 0 ≤ (x9_2 : Int) := of_decide_eq_true (by first | (with_reducible assumption) | assumption)
                    have q12 : x9_2 < (4 : Int) := of_decide_eq_true (by first | (with_reducible assumption) | assumption)
                    have hx12 := bt_at (⟨#[97, 98, 99, 100]⟩ : ByteArray) x9_2
                    replace p12 := eq_true p12
                    replace q12 := eq_true q12
                    go_wp2
                    go_roundg k2
                    case measure => have := HK1.out; have := HK2.out; omega
                    case rel => exact ⟨(wrap64 (x9_2 + 1)), (by first | rfl | (simp; done) | (simp [*]; done)), H', ⟨by have := HK1.out; have := HK2.out; omega⟩, by repeat (first | exact Drawn0.refl _ | apply Drawn0.step)⟩
                · rw [if_neg c11] at H
                  exact absurd H (by simp)
              · rw [if_neg c10] at H
                exact absurd H (by simp)
            · rw [if_neg c9] at H
              have c9b0 : decide (x9_2 < a1) = false := decide_eq_false c9
              clear c9
              simp only [Option.some.injEq, Prod.mk.injEq] at H
              obtain ⟨rfl, rfl⟩ := H
              go_wp2
              go_ret2
              exact ⟨by first | rfl | (simp; done) | (simp [*]; done), by repeat (first | exact Drawn0.refl _ | apply Drawn0.step)⟩

end Go.Proofs.Ytbcfoljdejmigaa.P

/-! F32 -/
namespace Go.Proofs.Ytbcfoljdejmigaa.P
open Go.RowKit Go.Proofs.YtbcfoljdejmigaaW.PrintWords Go.Proofs.YtbcfoljdejmigaaW.PrintLast Go.Proofs.YtbcfoljdejmigaaW.PrintMore
attribute [local go_sem] max2_int min2_int max_two min_two max_three min_three max_four min_four   -- for this text's walks alone
set_option linter.unusedVariables false
set_option linter.unusedSimpArgs false

/-! ### spec_ReadWord: function 32 -/
mutual
def spec_ReadWord.j0 : Nat → ByteArray → Bool → Int → Int → List (S61) → Option (List Int × Int × Bool)
  | 0, _, _, _, _, _ => none
  | k + 1, x1, x18, x102000, x102001, x102002 => if x18 = true then (some (([] : List Int), 0, false)) else (spec_ReadWord.l0 k x1 ([] : List Int) 0 x102000 x102001 x102002)
def spec_ReadWord.l0 : Nat → ByteArray → List Int → Int → Int → Int → List (S61) → Option (List Int × Int × Bool)
  | 0, _, _, _, _, _, _ => none
  | k + 1, x1, x7, x8, x102000, x102001, x102002 => if x8 < (x1.size : Int) then (if 0 ≤ x8 then ((spec_l2Symbol.f k 0 x102001 (bt x1 x8)).bind fun bt103 => (if bt103.2 = true then (if x7.length < 17592186044416 then (spec_ReadWord.l0 k x1 (x7 ++ [wrap64 ((-1) - bt103.1)]) (wrap64 (x8 + 1)) x102000 x102001 x102002) else (none)) else (some (([] : List Int), x8, false)))) else (none)) else (some (x7, 0, true))
end
def spec_ReadWord.f (k : Nat) (a0_0 : Int) (a0_1 : Int) (l0_2 : List (S61)) (a1 : ByteArray) : Option (List Int × Int × Bool) := (spec_GoodGrammar.f k a0_0 a0_1 l0_2).bind fun t102 => (if t102 = true then (spec_ReadWord.j0 k a1 (decide ((a1.size : Int) > 10)) a0_0 a0_1 l0_2) else (spec_ReadWord.j0 k a1 true a0_0 a0_1 l0_2))
theorem spec_ReadWord.mono_l : ∀ k, (∀ y0 y1 y2 y3 y4, LeO (spec_ReadWord.j0 k y0 y1 y2 y3 y4) (spec_ReadWord.j0 (k + 1) y0 y1 y2 y3 y4)) ∧ (∀ y0 y1 y2 y3 y4 y5, LeO (spec_ReadWord.l0 k y0 y1 y2 y3 y4 y5) (spec_ReadWord.l0 (k + 1) y0 y1 y2 y3 y4 y5))
  | 0 => ⟨fun _ _ _ _ _ r h => by simp [spec_ReadWord.j0] at h, fun _ _ _ _ _ _ r h => by simp [spec_ReadWord.l0] at h⟩
  | k + 1 => by
    obtain ⟨ih0, ih1⟩ := spec_ReadWord.mono_l k
    refine ⟨?_, ?_⟩
    · intro y0 y1 y2 y3 y4
      unfold spec_ReadWord.j0
      repeat' first
      | (with_reducible exact ih0 _ _ _ _ _)
      | (with_reducible exact ih1 _ _ _ _ _ _)
      | (with_reducible exact spec_GoodGrammar.mono _ _ _ _)
      | (with_reducible exact spec_l2Symbol.mono _ _ _ _)
      | (with_reducible exact LeO.refl _)
      | (with_reducible exact LeO.none _)
      | (with_reducible refine LeO.ite ?_ ?_)
      | (with_reducible refine LeO.bind ?_ (fun _ => ?_))
      | exact ih0 _ _ _ _ _
      | exact ih1 _ _ _ _ _ _
      | exact spec_GoodGrammar.mono _ _ _ _
      | exact spec_l2Symbol.mono _ _ _ _
      | exact LeO.none _
      | refine LeO.ite ?_ ?_
      | refine LeO.bind ?_ (fun _ => ?_)
    · intro y0 y1 y2 y3 y4 y5
      unfold spec_ReadWord.l0
      repeat' first
      | (with_reducible exact ih0 _ _ _ _ _)
      | (with_reducible exact ih1 _ _ _ _ _ _)
      | (with_reducible exact spec_GoodGrammar.mono _ _ _ _)
      | (with_reducible exact spec_l2Symbol.mono _ _ _ _)
      | (with_reducible exact LeO.refl _)
      | (with_reducible exact LeO.none _)
      | (with_reducible refine LeO.ite ?_ ?_)
      | (with_reducible refine LeO.bind ?_ (fun _ => ?_))
      | exact ih0 _ _ _ _ _
      | exact ih1 _ _ _ _ _ _
      | exact spec_GoodGrammar.mono _ _ _ _
      | exact spec_l2Symbol.mono _ _ _ _
      | exact LeO.none _
      | refine LeO.ite ?_ ?_
      | refine LeO.bind ?_ (fun _ => ?_)
theorem spec_ReadWord.mono : ∀ a0 a1 a2 a3 k, LeO (spec_ReadWord.f k a0 a1 a2 a3) (spec_ReadWord.f (k + 1) a0 a1 a2 a3) := by
  intro a0 a1 a2 a3 k
  obtain ⟨ih0, ih1⟩ := spec_ReadWord.mono_l k
  unfold spec_ReadWord.f
  repeat' first
      | (with_reducible exact ih0 _ _ _ _ _)
      | (with_reducible exact ih1 _ _ _ _ _ _)
      | (with_reducible exact spec_GoodGrammar.mono _ _ _ _)
      | (with_reducible exact spec_l2Symbol.mono _ _ _ _)
      | (with_reducible exact LeO.refl _)
      | (with_reducible exact LeO.none _)
      | (with_reducible refine LeO.ite ?_ ?_)
      | (with_reducible refine LeO.bind ?_ (fun _ => ?_))
      | exact ih0 _ _ _ _ _
      | exact ih1 _ _ _ _ _ _
      | exact spec_GoodGrammar.mono _ _ _ _
      | exact spec_l2Symbol.mono _ _ _ _
      | exact LeO.none _
      | refine LeO.ite ?_ ?_
      | refine LeO.bind ?_ (fun _ => ?_)
set_option maxHeartbeats 8000000 in
set_option maxRecDepth 100000 in
theorem spec_ReadWord.calls (k : Nat) (a0_0 : Int) (a0_1 : Int) (A0_2 : Option Addr) (c0_2 : Nat) (l0_2 : List (S61)) (a1 : ByteArray) (r1 : List Int) (r2 : Int) (r3 : Bool) (w : World) (hr0_2 : Kd.C k61 w A0_2 l0_2.length l0_2) (hc0_2 : l0_2.length ≤ c0_2) (h : spec_ReadWord.f k a0_0 a0_1 l0_2 a1 = some (r1, r2, r3)) :
    Calls Try.prog 32 #[.agg #[.int .i64 a0_0, .int .i64 a0_1, .slice A0_2 l0_2.length c0_2], .string a1] w fun e w' => ∃ v0_ : Value, e = .returned (.tuple #[v0_, .int .i64 r2, .bool r3]) ∧ Kd.R (Kd.int .i64) 3 w' w.heap.size (fun _ => True) v0_ r1 ∧ Below w.heap.size w w' := by
  have hu29 := Try.underlying29
  have HR0_2 := Aside0.mk hr0_2
  have HC0_2 := Aside0.mk hc0_2
  clear hr0_2 hc0_2
  have HB := Aside0.mk (Below.refl w.heap.size w)
  have H : ((spec_GoodGrammar.f k a0_0 a0_1 l0_2).bind fun t102 => (if t102 = true then (spec_ReadWord.j0 k a1 (decide ((a1.size : Int) > 10)) a0_0 a0_1 l0_2) else (spec_ReadWord.j0 k a1 true a0_0 a0_1 l0_2))) = some (r1, r2, r3) := h
  clear h
  have HC3 := Aside0.mk H
  clear H
  go_enter Try.func32, Try.ntmps32
  go_upto_region 1 with (first | ((with_reducible refine gate_dst (N := 2) rfl ?_); (try (refine gate_guard (by rfl) ?_; dsimp only)); refine box_event ?hg (N := 2) ?hd (cs := #[.int .i64 a0_0, .int .i64 a0_1, .slice A0_2 l0_2.length c0_2]) (t := 29) ?hr ?_; (case hd => rfl); (case hg => rfl); (case hr => first | (go_simp; done) | (go_simp; rfl)); intro gb101 hg w4 hbox hb; have n0_ := Aside0.mk (below_step (by repeat (first | (with_reducible first | exact HB.out | apply below_alloc | apply pw_below_drewN | apply below_drew1) | exact HB.out)) hb); have n1_ := Aside0.mk (hbox); have n2_ := Aside0.mk ((by rw [hg]; exact (below_size (by repeat (first | (with_reducible first | exact HB.out | apply below_alloc | apply pw_below_drewN | apply below_drew1) | exact HB.out))) : w.heap.size ≤ gb101)); have n3_ := Aside0.mk ((by rw [hg]; exact (below_size (by repeat (first | (with_reducible first | exact HB.out | apply below_alloc | apply pw_below_drewN | apply below_drew1) | exact HB.out))) : w.heap.size ≤ gb101)); clear HB; have HB := n0_; have BK101 := n1_; have GW101 := n2_; have GE101 := n3_; clear n0_ n1_ n2_ n3_; clear hb hbox hg))
  repeat (go_quiet (first | ((with_reducible refine gate_dst (N := 2) rfl ?_); (try (refine gate_guard (by rfl) ?_; dsimp only)); refine box_event ?hg (N := 2) ?hd (cs := #[.int .i64 a0_0, .int .i64 a0_1, .slice A0_2 l0_2.length c0_2]) (t := 29) ?hr ?_; (case hd => rfl); (case hg => rfl); (case hr => first | (go_simp; done) | (go_simp; rfl)); intro gb101 hg w4 hbox hb; have n0_ := Aside0.mk (below_step (by repeat (first | (with_reducible first | exact HB.out | apply below_alloc | apply pw_below_drewN | apply below_drew1) | exact HB.out)) hb); have n1_ := Aside0.mk (hbox); have n2_ := Aside0.mk ((by rw [hg]; exact (below_size (by repeat (first | (with_reducible first | exact HB.out | apply below_alloc | apply pw_below_drewN | apply below_drew1) | exact HB.out))) : w.heap.size ≤ gb101)); have n3_ := Aside0.mk ((by rw [hg]; exact (below_size (by repeat (first | (with_reducible first | exact HB.out | apply below_alloc | apply pw_below_drewN | apply below_drew1) | exact HB.out))) : w.heap.size ≤ gb101)); clear HB; have HB := n0_; have BK101 := n1_; have GW101 := n2_; have GE101 := n3_; clear n0_ n1_ n2_ n3_; clear hb hbox hg)); go_upto_region 1 with (first | ((with_reducible refine gate_dst (N := 2) rfl ?_); (try (refine gate_guard (by rfl) ?_; dsimp only)); refine box_event ?hg (N := 2) ?hd (cs := #[.int .i64 a0_0, .int .i64 a0_1, .slice A0_2 l0_2.length c0_2]) (t := 29) ?hr ?_; (case hd => rfl); (case hg => rfl); (case hr => first | (go_simp; done) | (go_simp; rfl)); intro gb101 hg w4 hbox hb; have n0_ := Aside0.mk (below_step (by repeat (first | (with_reducible first | exact HB.out | apply below_alloc | apply pw_below_drewN | apply below_drew1) | exact HB.out)) hb); have n1_ := Aside0.mk (hbox); have n2_ := Aside0.mk ((by rw [hg]; exact (below_size (by repeat (first | (with_reducible first | exact HB.out | apply below_alloc | apply pw_below_drewN | apply below_drew1) | exact HB.out))) : w.heap.size ≤ gb101)); have n3_ := Aside0.mk ((by rw [hg]; exact (below_size (by repeat (first | (with_reducible first | exact HB.out | apply below_alloc | apply pw_below_drewN | apply below_drew1) | exact HB.out))) : w.heap.size ≤ gb101)); clear HB; have HB := n0_; have BK101 := n1_; have GW101 := n2_; have GE101 := n3_; clear n0_ n1_ n2_ n3_; clear hb hbox hg)))
  (try simp only [Act.put, List.setIfInBounds_toArray, List.set_cons_zero, List.set_cons_succ])
  go_cut [18] (fun v18 wc => ∃ (kq : Nat) (x18_2 : Bool), v18 = .bool x18_2 ∧ Aside0 (spec_ReadWord.j0 kq a1 x18_2 a0_0 a0_1 l0_2 = some (r1, r2, r3)) ∧ Aside0 (kq ≤ k) ∧ Aside0 (wc.heap[gb101]? = some (.cells #[.int .i64 a0_0, .int .i64 a0_1, (.slice A0_2 l0_2.length c0_2)] 29 (0, 0))) ∧ Aside0 (Below w.heap.size w wc))
  case first =>
    have H := HC3.out
    clear HC3
    replace H := Option.bind_eq_some_iff.mp H
    obtain ⟨t102, A50, H⟩ := H
    replace H : (if t102 = true then (spec_ReadWord.j0 k a1 (decide ((a1.size : Int) > 10)) a0_0 a0_1 l0_2) else (spec_ReadWord.j0 k a1 true a0_0 a0_1 l0_2)) = some (r1, r2, r3) := H
    have A5 := Aside0.mk A50
    clear A50
    by_cases c6 : t102 = true
    · subst c6
      have H1 : (spec_ReadWord.j0 k a1 (decide ((a1.size : Int) > 10)) a0_0 a0_1 l0_2) = some (r1, r2, r3) := by rw [if_pos rfl] at H; exact H
      clear H
      have H := H1
      clear H1
      have H' := Aside0.mk H
      clear H
      have hcz7_0 : w4.cell? ⟨gb101, 0, none⟩ = some (.int .i64 a0_0) := (blk_cell BK101.out 0).trans rfl
      have hcz7_1 : w4.cell? ⟨gb101, 1, none⟩ = some (.int .i64 a0_1) := (blk_cell BK101.out 1).trans rfl
      have hcz7_2 : w4.cell? ⟨gb101, 2, none⟩ = some (.slice A0_2 l0_2.length c0_2) := (blk_cell BK101.out 2).trans rfl
      have hfz7_0 := blk_frozen BK101.out 0
      have hfz7_1 := blk_frozen BK101.out 1
      have hfz7_2 := blk_frozen BK101.out 2
      go_wp2_with (first | (go_at_call 15; (with_reducible refine (spec_GoodGrammar.calls k a0_0 a0_1 _ _ l0_2 true _ ?side1 ?side2 A5.out).mono ?_); (case side1 => repeat (first | exact (Kd.C_below HR0_2.out HB.out) | (with_reducible refine Kd.C_alloc ?_ _) | (with_reducible refine Kd.C_drewN ?_ _) | (with_reducible refine Kd.C_drew ?_))); (case side2 => exact HC0_2.out); rintro e w8 ⟨rfl, hb⟩; have n0_ := Aside0.mk (blk_below (g := gb101) (o := .cells #[.int .i64 a0_0, .int .i64 a0_1, .slice A0_2 l0_2.length c0_2] 29 (0, 0)) (by (with_reducible repeat (first | refine blk_drewN ?_ _ | refine blk_drew ?_ | refine blk_alloc ?_ _)); exact BK101.out) hb); have n1_ := Aside0.mk (below_step (by repeat (first | (with_reducible first | exact HB.out | apply below_alloc | apply pw_below_drewN | apply below_drew1 | refine below_set ?_ GE101.out) | exact HB.out)) hb); clear BK101; clear HB; have BK101 := n0_; have HB := n1_; clear n0_ n1_; (try clear hb); (try clear hb2); (try clear hk); (try clear hi)))
      repeat (go_quiet (first | (go_at_call 15; (with_reducible refine (spec_GoodGrammar.calls k a0_0 a0_1 _ _ l0_2 true _ ?side1 ?side2 A5.out).mono ?_); (case side1 => repeat (first | exact (Kd.C_below HR0_2.out HB.out) | (with_reducible refine Kd.C_alloc ?_ _) | (with_reducible refine Kd.C_drewN ?_ _) | (with_reducible refine Kd.C_drew ?_))); (case side2 => exact HC0_2.out); rintro e w8 ⟨rfl, hb⟩; have n0_ := Aside0.mk (blk_below (g := gb101) (o := .cells #[.int .i64 a0_0, .int .i64 a0_1, .slice A0_2 l0_2.length c0_2] 29 (0, 0)) (by (with_reducible repeat (first | refine blk_drewN ?_ _ | refine blk_drew ?_ | refine blk_alloc ?_ _)); exact BK101.out) hb); have n1_ := Aside0.mk (below_step (by repeat (first | (with_reducible first | exact HB.out | apply below_alloc | apply pw_below_drewN | apply below_drew1 | refine below_set ?_ GE101.out) | exact HB.out)) hb); clear BK101; clear HB; have BK101 := n0_; have HB := n1_; clear n0_ n1_; (try clear hb); (try clear hb2); (try clear hk); (try clear hi))); try go_wp2_with (first | (go_at_call 15; (with_reducible refine (spec_GoodGrammar.calls k a0_0 a0_1 _ _ l0_2 true _ ?side1 ?side2 A5.out).mono ?_); (case side1 => repeat (first | exact (Kd.C_below HR0_2.out HB.out) | (with_reducible refine Kd.C_alloc ?_ _) | (with_reducible refine Kd.C_drewN ?_ _) | (with_reducible refine Kd.C_drew ?_))); (case side2 => exact HC0_2.out); rintro e w8 ⟨rfl, hb⟩; have n0_ := Aside0.mk (blk_below (g := gb101) (o := .cells #[.int .i64 a0_0, .int .i64 a0_1, .slice A0_2 l0_2.length c0_2] 29 (0, 0)) (by (with_reducible repeat (first | refine blk_drewN ?_ _ | refine blk_drew ?_ | refine blk_alloc ?_ _)); exact BK101.out) hb); have n1_ := Aside0.mk (below_step (by repeat (first | (with_reducible first | exact HB.out | apply below_alloc | apply pw_below_drewN | apply below_drew1 | refine below_set ?_ GE101.out) | exact HB.out)) hb); clear BK101; clear HB; have BK101 := n0_; have HB := n1_; clear n0_ n1_; (try clear hb); (try clear hb2); (try clear hk); (try clear hi))))
      go_meet
      case rel => exact ⟨_, (decide ((a1.size : Int) > 10)), (by first | rfl | (simp; done) | (simp [*]; done)), H', ⟨by first | omega | exact Nat.le_refl _⟩, ⟨by (with_reducible repeat (first | refine blk_drewN ?_ _ | refine blk_drew ?_ | refine blk_alloc ?_ _)); exact BK101.out⟩, ⟨by repeat (first | (with_reducible first | exact HB.out | apply below_alloc | apply pw_below_drewN | apply below_drew1 | refine below_set ?_ GE101.out) | exact HB.out)⟩⟩
    · replace c6 := Bool.eq_false_iff.mpr c6
      subst c6
      have H1 : (spec_ReadWord.j0 k a1 true a0_0 a0_1 l0_2) = some (r1, r2, r3) := by rw [if_neg (show ¬ (false = true) by decide)] at H; exact H
      clear H
      have H := H1
      clear H1
      have H' := Aside0.mk H
      clear H
      have hcz9_0 : w4.cell? ⟨gb101, 0, none⟩ = some (.int .i64 a0_0) := (blk_cell BK101.out 0).trans rfl
      have hcz9_1 : w4.cell? ⟨gb101, 1, none⟩ = some (.int .i64 a0_1) := (blk_cell BK101.out 1).trans rfl
      have hcz9_2 : w4.cell? ⟨gb101, 2, none⟩ = some (.slice A0_2 l0_2.length c0_2) := (blk_cell BK101.out 2).trans rfl
      have hfz9_0 := blk_frozen BK101.out 0
      have hfz9_1 := blk_frozen BK101.out 1
      have hfz9_2 := blk_frozen BK101.out 2
      go_wp2_with (first | (go_at_call 15; (with_reducible refine (spec_GoodGrammar.calls k a0_0 a0_1 _ _ l0_2 false _ ?side1 ?side2 A5.out).mono ?_); (case side1 => repeat (first | exact (Kd.C_below HR0_2.out HB.out) | (with_reducible refine Kd.C_alloc ?_ _) | (with_reducible refine Kd.C_drewN ?_ _) | (with_reducible refine Kd.C_drew ?_))); (case side2 => exact HC0_2.out); rintro e w10 ⟨rfl, hb⟩; have n0_ := Aside0.mk (blk_below (g := gb101) (o := .cells #[.int .i64 a0_0, .int .i64 a0_1, .slice A0_2 l0_2.length c0_2] 29 (0, 0)) (by (with_reducible repeat (first | refine blk_drewN ?_ _ | refine blk_drew ?_ | refine blk_alloc ?_ _)); exact BK101.out) hb); have n1_ := Aside0.mk (below_step (by repeat (first | (with_reducible first | exact HB.out | apply below_alloc | apply pw_below_drewN | apply below_drew1 | refine below_set ?_ GE101.out) | exact HB.out)) hb); clear BK101; clear HB; have BK101 := n0_; have HB := n1_; clear n0_ n1_; (try clear hb); (try clear hb2); (try clear hk); (try clear hi)))
      repeat (go_quiet (first | (go_at_call 15; (with_reducible refine (spec_GoodGrammar.calls k a0_0 a0_1 _ _ l0_2 false _ ?side1 ?side2 A5.out).mono ?_); (case side1 => repeat (first | exact (Kd.C_below HR0_2.out HB.out) | (with_reducible refine Kd.C_alloc ?_ _) | (with_reducible refine Kd.C_drewN ?_ _) | (with_reducible refine Kd.C_drew ?_))); (case side2 => exact HC0_2.out); rintro e w10 ⟨rfl, hb⟩; have n0_ := Aside0.mk (blk_below (g := gb101) (o := .cells #[.int .i64 a0_0, .int .i64 a0_1, .slice A0_2 l0_2.length c0_2] 29 (0, 0)) (by (with_reducible repeat (first | refine blk_drewN ?_ _ | refine blk_drew ?_ | refine blk_alloc ?_ _)); exact BK101.out) hb); have n1_ := Aside0.mk (below_step (by repeat (first | (with_reducible first | exact HB.out | apply below_alloc | apply pw_below_drewN | apply below_drew1 | refine below_set ?_ GE101.out) | exact HB.out)) hb); clear BK101; clear HB; have BK101 := n0_; have HB := n1_; clear n0_ n1_; (try clear hb); (try clear hb2); (try clear hk); (try clear hi))); try go_wp2_with (first | (go_at_call 15; (with_reducible refine (spec_GoodGrammar.calls k a0_0 a0_1 _ _ l0_2 false _ ?side1 ?side2 A5.out).mono ?_); (case side1 => repeat (first | exact (Kd.C_below HR0_2.out HB.out) | (with_reducible refine Kd.C_alloc ?_ _) | (with_reducible refine Kd.C_drewN ?_ _) | (with_reducible refine Kd.C_drew ?_))); (case side2 => exact HC0_2.out); rintro e w10 ⟨rfl, hb⟩; have n0_ := Aside0.mk (blk_below (g := gb101) (o := .cells #[.int .i64 a0_0, .int .i64 a0_1, .slice A0_2 l0_2.length c0_2] 29 (0, 0)) (by (with_reducible repeat (first | refine blk_drewN ?_ _ | refine blk_drew ?_ | refine blk_alloc ?_ _)); exact BK101.out) hb); have n1_ := Aside0.mk (below_step (by repeat (first | (with_reducible first | exact HB.out | apply below_alloc | apply pw_below_drewN | apply below_drew1 | refine below_set ?_ GE101.out) | exact HB.out)) hb); clear BK101; clear HB; have BK101 := n0_; have HB := n1_; clear n0_ n1_; (try clear hb); (try clear hb2); (try clear hk); (try clear hi))))
      go_meet
      case rel => exact ⟨_, (true), (by first | rfl | (simp; done) | (simp [*]; done)), H', ⟨by first | omega | exact Nat.le_refl _⟩, ⟨by (with_reducible repeat (first | refine blk_drewN ?_ _ | refine blk_drew ?_ | refine blk_alloc ?_ _)); exact BK101.out⟩, ⟨by repeat (first | (with_reducible first | exact HB.out | apply below_alloc | apply pw_below_drewN | apply below_drew1 | refine below_set ?_ GE101.out) | exact HB.out)⟩⟩
  case rest =>
    clear HC3
    try clear p2
    try clear c3
    try clear c6
    try clear hcz7_0
    try clear hcz7_1
    try clear hcz7_2
    try clear hcz9_0
    try clear hcz9_1
    try clear hcz9_2
    try clear hfz7_0
    try clear hfz7_1
    try clear hfz7_2
    try clear hfz9_0
    try clear hfz9_1
    try clear hfz9_2
    obtain ⟨kq, x18_2, rfl, HA, HJ2, BK101, HB⟩ := hcut
    cases kq with
    | zero => exact absurd HA.out (by simp [spec_ReadWord.j0])
    | succ kj2 =>
      have H := HA.out
      clear HA
      simp only [spec_ReadWord.j0] at H
      by_cases c11 : x18_2 = true
      · subst c11
        have H1 : (some (([] : List Int), 0, false)) = some (r1, r2, r3) := by rw [if_pos rfl] at H; exact H
        clear H
        have H := H1
        clear H1
        simp only [Option.some.injEq, Prod.mk.injEq] at H
        obtain ⟨rfl, rfl, rfl⟩ := H
        go_wp2
        repeat (go_quiet (fail); try go_wp2)
        go_ret3
        exact ⟨_, by first | rfl | (simp [errW_none, errW_some] <;> rfl) | (simp [*, errW_none, errW_some] <;> rfl), by first | exact Kd.R_nil _ _ _ _ _ | exact Kd.N_nil _ _ _ _ _ | exact Kd.V_nil _ _ _ _ _ | exact Kd.Q_nil _ _ _ _ _ | exact Kd.S_nil _ _ _ _ _, by repeat (first | (with_reducible first | exact HB.out | apply below_alloc | apply pw_below_drewN | apply below_drew1 | refine below_set ?_ GE101.out) | exact HB.out)⟩
      · replace c11 := Bool.eq_false_iff.mpr c11
        subst c11
        have H1 : (spec_ReadWord.l0 kj2 a1 ([] : List Int) 0 a0_0 a0_1 l0_2) = some (r1, r2, r3) := by rw [if_neg (show ¬ (false = true) by decide)] at H; exact H
        clear H
        have H := H1
        clear H1
        have H' := Aside0.mk H
        clear H
        go_wp2
        repeat (go_quiet (fail); try go_wp2)
        go_loopg [7, 8] kj2 (fun kq v7 v8 w' => ∃ (x7_2 : List Int) (x8_2 : Int), v8 = .int .i64 x8_2 ∧ Aside0 (spec_ReadWord.l0 kq a1 x7_2 x8_2 a0_0 a0_1 l0_2 = some (r1, r2, r3)) ∧ Aside0 (kq ≤ kj2) ∧ Aside0 (Kd.R (Kd.int .i64) 3 w' w.heap.size (fun _ => True) v7 x7_2) ∧ Aside0 (w'.heap[gb101]? = some (.cells #[.int .i64 a0_0, .int .i64 a0_1, (.slice A0_2 l0_2.length c0_2)] 29 (0, 0))) ∧ Aside0 (Below w.heap.size w w'))
        case atStart => exact ⟨(([] : List Int)), (0), (by first | rfl | (simp; done) | (simp [*]; done)), H', ⟨Nat.le_refl _⟩, ⟨by first | exact Kd.R_nil _ _ _ _ _ | exact Kd.N_nil _ _ _ _ _ | exact Kd.V_nil _ _ _ _ _ | exact Kd.Q_nil _ _ _ _ _ | exact Kd.S_nil _ _ _ _ _⟩, ⟨by (with_reducible repeat (first | refine blk_drewN ?_ _ | refine blk_drew ?_ | refine blk_alloc ?_ _)); exact BK101.out⟩, ⟨by repeat (first | (with_reducible first | exact HB.out | apply below_alloc | apply pw_below_drewN | apply below_drew1 | refine below_set ?_ GE101.out) | exact HB.out)⟩⟩
        case round =>
          clear H'
          try clear c1
          try clear p2
          try clear c3
          try clear c6
          try clear c11
          try clear hcz7_0
          try clear hcz7_1
          try clear hcz7_2
          try clear hcz9_0
          try clear hcz9_1
          try clear hcz9_2
          try clear hfz7_0
          try clear hfz7_1
          try clear hfz7_2
          try clear hfz9_0
          try clear hfz9_1
          try clear hfz9_2
          try clear p2
          obtain ⟨x7_2, x8_2, rfl, HA, HK2, HO_7, BK101, HB⟩ := hrel
          cases gk with
          | zero => exact absurd HA.out (by simp [spec_ReadWord.l0])
          | succ k2 =>
            have H := HA.out
            clear HA
            simp only [spec_ReadWord.l0] at H
            by_cases c12 : x8_2 < (a1.size : Int)
            · rw [if_pos c12] at H
              have c12b0 : decide (x8_2 < (a1.size : Int)) = true := decide_eq_true c12
              clear c12
              by_cases c13 : 0 ≤ x8_2
              · rw [if_pos c13] at H
                have c13b0 : decide (0 ≤ x8_2) = true := decide_eq_true c13
                clear c13
                replace H := Option.bind_eq_some_iff.mp H
                obtain ⟨⟨t103, t104⟩, A150, H⟩ := H
                replace H : (if t104 = true then (if x7_2.length < 17592186044416 then (spec_ReadWord.l0 k2 a1 (x7_2 ++ [wrap64 ((-1) - t103)]) (wrap64 (x8_2 + 1)) a0_0 a0_1 l0_2) else (none)) else (some (([] : List Int), x8_2, false))) = some (r1, r2, r3) := H
                have A15 := Aside0.mk A150
                clear A150
                by_cases c16 : t104 = true
                · subst c16
                  have H1 : (if x7_2.length < 17592186044416 then (spec_ReadWord.l0 k2 a1 (x7_2 ++ [wrap64 ((-1) - t103)]) (wrap64 (x8_2 + 1)) a0_0 a0_1 l0_2) else (none)) = some (r1, r2, r3) := by rw [if_pos rfl] at H; exact H
                  clear H
                  have H := H1
                  clear H1
                  by_cases c17 : x7_2.length < 17592186044416
                  · rw [if_pos c17] at H
                    have LMc17 := Aside0.mk c17
                    clear c17
                    obtain ⟨y105, hy105⟩ : ∃ y_ : List Int, y_ = (x7_2 ++ [wrap64 ((-1) - t103)]) := ⟨_, rfl⟩
                    replace H : (spec_ReadWord.l0 k2 a1 y105 (wrap64 (x8_2 + 1)) a0_0 a0_1 l0_2) = some (r1, r2, r3) := by first | (rw [hy105]; with_reducible exact H) | (have H2_ := (Option.bind_some _ _).symm.trans H; rw [hy105]; with_reducible exact H2_) | (have H2_ := (Option.bind_some _ _).symm.trans H; with_reducible exact H2_) | with_reducible exact H | (rw [hy105]; exact H) | exact H
                    have Ny105 := Aside0.mk hy105
                    clear hy105
                    have H' := Aside0.mk H
                    clear H
                    have hcz18_0 : wr.cell? ⟨gb101, 0, none⟩ = some (.int .i64 a0_0) := (blk_cell BK101.out 0).trans rfl
                    have hcz18_1 : wr.cell? ⟨gb101, 1, none⟩ = some (.int .i64 a0_1) := (blk_cell BK101.out 1).trans rfl
                    have hcz18_2 : wr.cell? ⟨gb101, 2, none⟩ = some (.slice A0_2 l0_2.length c0_2) := (blk_cell BK101.out 2).trans rfl
                    have hfz18_0 := blk_frozen BK101.out 0
                    have hfz18_1 := blk_frozen BK101.out 1
                    have hfz18_2 := blk_frozen BK101.out 2
                    have p14 : 0 ≤ (x8_2 : Int) := of_decide_eq_true (by first | (with_reducible assumption) | assumption)
                    have q14 : x8_2 < (a1.size : Int) := of_decide_eq_true (by first | (with_reducible assumption) | assumption)
                    have hx14 := bt_at a1 x8_2
                    replace p14 := eq_true p14
                    replace q14 := eq_true q14
                    go_wp2_with (first | (go_at_call 59; (with_reducible refine (spec_l2Symbol.calls k2 0 a0_1 (bt a1 x8_2) t103 true _ A15.out).mono ?_); rintro e w' ⟨rfl, ⟨nd, rfl⟩⟩; (try first | exact ⟨rfl, _, World.drewN_drewN _ _ _⟩ | exact ⟨rfl, _, Eq.trans (World.drewN_drewN _ _ _) (congrArg (World.drewN _) (Nat.add_assoc _ _ _))⟩)) | ((with_reducible refine gate_builtin (b := .append) (xs := #[.tmp 37, .tmp 40]) rfl ?_); (try (refine gate_guard (by rfl) ?_; dsimp only)); at_builtin; refine Kd.R_append (Kd.int .i64) (w0 := w) w.heap.size rfl (.tmp 37) (.tmp 40) 33 3 (.int .i64 0) 8 rfl Try.underlying33 info3 rfl (by decide) (by omega) u7 x7_2 (wrap64 ((-1) - t103)) [.int .i64 (wrap64 ((-1) - t103))] (fun _ => True) (fun _ => False) rfl rfl ?aP (fun _ hk => hk.elim) ?aF ?aO ?aB ?aS ?aL ?_; (case aP => exact rfl); (case aB => exact (by repeat (first | (with_reducible first | exact HB.out | apply below_alloc | apply pw_below_drewN | apply below_drew1 | refine below_set ?_ GE101.out) | exact HB.out))); (case aF => exact (fun _ _ => trivial)); (case aO => exact (by (with_reducible repeat (first | apply Kd.R_alloc | apply Kd.R_drewN | apply Kd.R_drew)); exact HO_7.out)); (case aS => exact (below_size (by repeat (first | (with_reducible first | exact HB.out | apply below_alloc | apply pw_below_drewN | apply below_drew1 | refine below_set ?_ GE101.out) | exact HB.out)))); (case aL => have := LMc17.out; omega); intro v106 w19 ho hb hg hat; rw [← Ny105.out] at ho; have n0_ := Aside0.mk (blk_grown (g := gb101) (o := .cells #[.int .i64 a0_0, .int .i64 a0_1, .slice A0_2 l0_2.length c0_2] 29 (0, 0)) (by (with_reducible repeat (first | refine blk_drewN ?_ _ | refine blk_drew ?_ | refine blk_alloc ?_ _)); exact BK101.out) hg (Kd.R_ne HO_7.out BK101.out (by decide))); have n1_ := Aside0.mk (hb); have n2_ := Aside0.mk (ho); clear BK101; clear HB; clear HO_7; have BK101 := n0_; have HB := n1_; have HO107 := n2_; clear n0_ n1_ n2_; clear ho hb hg hat))
                    repeat (go_quiet (first | (go_at_call 59; (with_reducible refine (spec_l2Symbol.calls k2 0 a0_1 (bt a1 x8_2) t103 true _ A15.out).mono ?_); rintro e w' ⟨rfl, ⟨nd, rfl⟩⟩; (try first | exact ⟨rfl, _, World.drewN_drewN _ _ _⟩ | exact ⟨rfl, _, Eq.trans (World.drewN_drewN _ _ _) (congrArg (World.drewN _) (Nat.add_assoc _ _ _))⟩)) | ((with_reducible refine gate_builtin (b := .append) (xs := #[.tmp 37, .tmp 40]) rfl ?_); (try (refine gate_guard (by rfl) ?_; dsimp only)); at_builtin; refine Kd.R_append (Kd.int .i64) (w0 := w) w.heap.size rfl (.tmp 37) (.tmp 40) 33 3 (.int .i64 0) 8 rfl Try.underlying33 info3 rfl (by decide) (by omega) u7 x7_2 (wrap64 ((-1) - t103)) [.int .i64 (wrap64 ((-1) - t103))] (fun _ => True) (fun _ => False) rfl rfl ?aP (fun _ hk => hk.elim) ?aF ?aO ?aB ?aS ?aL ?_; (case aP => exact rfl); (case aB => exact (by repeat (first | (with_reducible first | exact HB.out | apply below_alloc | apply pw_below_drewN | apply below_drew1 | refine below_set ?_ GE101.out) | exact HB.out))); (case aF => exact (fun _ _ => trivial)); (case aO => exact (by (with_reducible repeat (first | apply Kd.R_alloc | apply Kd.R_drewN | apply Kd.R_drew)); exact HO_7.out)); (case aS => exact (below_size (by repeat (first | (with_reducible first | exact HB.out | apply below_alloc | apply pw_below_drewN | apply below_drew1 | refine below_set ?_ GE101.out) | exact HB.out)))); (case aL => have := LMc17.out; omega); intro v106 w19 ho hb hg hat; rw [← Ny105.out] at ho; have n0_ := Aside0.mk (blk_grown (g := gb101) (o := .cells #[.int .i64 a0_0, .int .i64 a0_1, .slice A0_2 l0_2.length c0_2] 29 (0, 0)) (by (with_reducible repeat (first | refine blk_drewN ?_ _ | refine blk_drew ?_ | refine blk_alloc ?_ _)); exact BK101.out) hg (Kd.R_ne HO_7.out BK101.out (by decide))); have n1_ := Aside0.mk (hb); have n2_ := Aside0.mk (ho); clear BK101; clear HB; clear HO_7; have BK101 := n0_; have HB := n1_; have HO107 := n2_; clear n0_ n1_ n2_; clear ho hb hg hat)); try go_wp2_with (first | (go_at_call 59; (with_reducible refine (spec_l2Symbol.calls k2 0 a0_1 (bt a1 x8_2) t103 true _ A15.out).mono ?_); rintro e w' ⟨rfl, ⟨nd, rfl⟩⟩; (try first | exact ⟨rfl, _, World.drewN_drewN _ _ _⟩ | exact ⟨rfl, _, Eq.trans (World.drewN_drewN _ _ _) (congrArg (World.drewN _) (Nat.add_assoc _ _ _))⟩)) | ((with_reducible refine gate_builtin (b := .append) (xs := #[.tmp 37, .tmp 40]) rfl ?_); (try (refine gate_guard (by rfl) ?_; dsimp only)); at_builtin; refine Kd.R_append (Kd.int .i64) (w0 := w) w.heap.size rfl (.tmp 37) (.tmp 40) 33 3 (.int .i64 0) 8 rfl Try.underlying33 info3 rfl (by decide) (by omega) u7 x7_2 (wrap64 ((-1) - t103)) [.int .i64 (wrap64 ((-1) - t103))] (fun _ => True) (fun _ => False) rfl rfl ?aP (fun _ hk => hk.elim) ?aF ?aO ?aB ?aS ?aL ?_; (case aP => exact rfl); (case aB => exact (by repeat (first | (with_reducible first | exact HB.out | apply below_alloc | apply pw_below_drewN | apply below_drew1 | refine below_set ?_ GE101.out) | exact HB.out))); (case aF => exact (fun _ _ => trivial)); (case aO => exact (by (with_reducible repeat (first | apply Kd.R_alloc | apply Kd.R_drewN | apply Kd.R_drew)); exact HO_7.out)); (case aS => exact (below_size (by repeat (first | (with_reducible first | exact HB.out | apply below_alloc | apply pw_below_drewN | apply below_drew1 | refine below_set ?_ GE101.out) | exact HB.out)))); (case aL => have := LMc17.out; omega); intro v106 w19 ho hb hg hat; rw [← Ny105.out] at ho; have n0_ := Aside0.mk (blk_grown (g := gb101) (o := .cells #[.int .i64 a0_0, .int .i64 a0_1, .slice A0_2 l0_2.length c0_2] 29 (0, 0)) (by (with_reducible repeat (first | refine blk_drewN ?_ _ | refine blk_drew ?_ | refine blk_alloc ?_ _)); exact BK101.out) hg (Kd.R_ne HO_7.out BK101.out (by decide))); have n1_ := Aside0.mk (hb); have n2_ := Aside0.mk (ho); clear BK101; clear HB; clear HO_7; have BK101 := n0_; have HB := n1_; have HO107 := n2_; clear n0_ n1_ n2_; clear ho hb hg hat)))
                    go_roundg k2
                    case measure => have := HJ2.out; have := HK2.out; omega
                    case rel => exact ⟨(y105), (wrap64 (x8_2 + 1)), (by first | rfl | (simp; done) | (simp [*]; done)), H', ⟨by have := HJ2.out; have := HK2.out; omega⟩, ⟨by (with_reducible repeat (first | apply Kd.R_alloc | apply Kd.R_drewN | apply Kd.R_drew)); exact HO107.out⟩, ⟨by (with_reducible repeat (first | refine blk_drewN ?_ _ | refine blk_drew ?_ | refine blk_alloc ?_ _)); exact BK101.out⟩, ⟨by repeat (first | (with_reducible first | exact HB.out | apply below_alloc | apply pw_below_drewN | apply below_drew1 | refine below_set ?_ GE101.out) | exact HB.out)⟩⟩
                  · rw [if_neg c17] at H
                    exact absurd H (by simp)
                · replace c16 := Bool.eq_false_iff.mpr c16
                  subst c16
                  have H1 : (some (([] : List Int), x8_2, false)) = some (r1, r2, r3) := by rw [if_neg (show ¬ (false = true) by decide)] at H; exact H
                  clear H
                  have H := H1
                  clear H1
                  simp only [Option.some.injEq, Prod.mk.injEq] at H
                  obtain ⟨rfl, rfl, rfl⟩ := H
                  have hcz20_0 : wr.cell? ⟨gb101, 0, none⟩ = some (.int .i64 a0_0) := (blk_cell BK101.out 0).trans rfl
                  have hcz20_1 : wr.cell? ⟨gb101, 1, none⟩ = some (.int .i64 a0_1) := (blk_cell BK101.out 1).trans rfl
                  have hcz20_2 : wr.cell? ⟨gb101, 2, none⟩ = some (.slice A0_2 l0_2.length c0_2) := (blk_cell BK101.out 2).trans rfl
                  have hfz20_0 := blk_frozen BK101.out 0
                  have hfz20_1 := blk_frozen BK101.out 1
                  have hfz20_2 := blk_frozen BK101.out 2
                  have p14 : 0 ≤ (x8_2 : Int) := of_decide_eq_true (by first | (with_reducible assumption) | assumption)
                  have q14 : x8_2 < (a1.size : Int) := of_decide_eq_true (by first | (with_reducible assumption) | assumption)
                  have hx14 := bt_at a1 x8_2
                  replace p14 := eq_true p14
                  replace q14 := eq_true q14
                  go_wp2_with (first | (go_at_call 59; (with_reducible refine (spec_l2Symbol.calls k2 0 a0_1 (bt a1 x8_2) t103 false _ A15.out).mono ?_); rintro e w' ⟨rfl, ⟨nd, rfl⟩⟩; (try first | exact ⟨rfl, _, World.drewN_drewN _ _ _⟩ | exact ⟨rfl, _, Eq.trans (World.drewN_drewN _ _ _) (congrArg (World.drewN _) (Nat.add_assoc _ _ _))⟩)))
                  repeat (go_quiet (first | (go_at_call 59; (with_reducible refine (spec_l2Symbol.calls k2 0 a0_1 (bt a1 x8_2) t103 false _ A15.out).mono ?_); rintro e w' ⟨rfl, ⟨nd, rfl⟩⟩; (try first | exact ⟨rfl, _, World.drewN_drewN _ _ _⟩ | exact ⟨rfl, _, Eq.trans (World.drewN_drewN _ _ _) (congrArg (World.drewN _) (Nat.add_assoc _ _ _))⟩))); try go_wp2_with (first | (go_at_call 59; (with_reducible refine (spec_l2Symbol.calls k2 0 a0_1 (bt a1 x8_2) t103 false _ A15.out).mono ?_); rintro e w' ⟨rfl, ⟨nd, rfl⟩⟩; (try first | exact ⟨rfl, _, World.drewN_drewN _ _ _⟩ | exact ⟨rfl, _, Eq.trans (World.drewN_drewN _ _ _) (congrArg (World.drewN _) (Nat.add_assoc _ _ _))⟩))))
                  go_ret3
                  exact ⟨_, by first | rfl | (simp [errW_none, errW_some] <;> rfl) | (simp [*, errW_none, errW_some] <;> rfl), by first | exact Kd.R_nil _ _ _ _ _ | exact Kd.N_nil _ _ _ _ _ | exact Kd.V_nil _ _ _ _ _ | exact Kd.Q_nil _ _ _ _ _ | exact Kd.S_nil _ _ _ _ _, by repeat (first | (with_reducible first | exact HB.out | apply below_alloc | apply pw_below_drewN | apply below_drew1 | refine below_set ?_ GE101.out) | exact HB.out)⟩
              · rw [if_neg c13] at H
                exact absurd H (by simp)
            · rw [if_neg c12] at H
              have c12b0 : decide (x8_2 < (a1.size : Int)) = false := decide_eq_false c12
              clear c12
              simp only [Option.some.injEq, Prod.mk.injEq] at H
              obtain ⟨rfl, rfl, rfl⟩ := H
              go_wp2
              repeat (go_quiet (fail); try go_wp2)
              go_ret3
              exact ⟨_, by first | rfl | (simp [errW_none, errW_some] <;> rfl) | (simp [*, errW_none, errW_some] <;> rfl), by (with_reducible repeat (first | apply Kd.R_alloc | apply Kd.R_drewN | apply Kd.R_drew)); exact HO_7.out, by repeat (first | (with_reducible first | exact HB.out | apply below_alloc | apply pw_below_drewN | apply below_drew1 | refine below_set ?_ GE101.out) | exact HB.out)⟩

end Go.Proofs.Ytbcfoljdejmigaa.P

/-! F33 -/
namespace Go.Proofs.Ytbcfoljdejmigaa.P
open Go.RowKit Go.Proofs.YtbcfoljdejmigaaW.PrintWords Go.Proofs.YtbcfoljdejmigaaW.PrintLast Go.Proofs.YtbcfoljdejmigaaW.PrintMore
attribute [local go_sem] max2_int min2_int max_two min_two max_three min_three max_four min_four   -- for this text's walks alone
set_option linter.unusedVariables false
set_option linter.unusedSimpArgs false

/-! ### impl_ReadWord: function 33 -/
mutual
def impl_ReadWord.j0 : Nat → ByteArray → Bool → Int → Int → List (S61) → Option (List Int × Int × Bool)
  | 0, _, _, _, _, _ => none
  | k + 1, x1, x17, x102000, x102001, x102002 => if x17 = true then (some (([] : List Int), 0, false)) else (impl_ReadWord.l0 k x1 (([] : List Int)) (x1.size : Int) 0 x102000 x102001 x102002)
def impl_ReadWord.l0 : Nat → ByteArray → List Int → Int → Int → Int → Int → List (S61) → Option (List Int × Int × Bool)
  | 0, _, _, _, _, _, _, _ => none
  | k + 1, x1, x7, x20, x21, x102000, x102001, x102002 => if x21 < x20 then (if 0 ≤ x21 then (if x21 < (x1.size : Int) then ((impl_in.f (wrap64 ((wrap64 (bt x1 x21)) - 97)) 0 (wrap64 (x102001 - 1))).bind fun t106 => (if t106 = true then (if x7.length < 17592186044416 then (impl_ReadWord.l0 k x1 (x7 ++ [wrap64 ((wrap64 (bt x1 x21)) - 97)]) x20 (wrap64 (x21 + 1)) x102000 x102001 x102002) else (none)) else (some (([] : List Int), x21, false)))) else (none)) else (none)) else (some (x7, 0, true))
end
def impl_ReadWord.f (k : Nat) (a0_0 : Int) (a0_1 : Int) (l0_2 : List (S61)) (a1 : ByteArray) : Option (List Int × Int × Bool) := (impl_isGrammar.f a0_0 a0_1 l0_2).bind fun t102 => (if t102 = true then (impl_ReadWord.j0 k a1 (decide ((a1.size : Int) > 10)) a0_0 a0_1 l0_2) else (impl_ReadWord.j0 k a1 true a0_0 a0_1 l0_2))
theorem impl_ReadWord.mono_l : ∀ k, (∀ y0 y1 y2 y3 y4, LeO (impl_ReadWord.j0 k y0 y1 y2 y3 y4) (impl_ReadWord.j0 (k + 1) y0 y1 y2 y3 y4)) ∧ (∀ y0 y1 y2 y3 y4 y5 y6, LeO (impl_ReadWord.l0 k y0 y1 y2 y3 y4 y5 y6) (impl_ReadWord.l0 (k + 1) y0 y1 y2 y3 y4 y5 y6))
  | 0 => ⟨fun _ _ _ _ _ r h => by simp [impl_ReadWord.j0] at h, fun _ _ _ _ _ _ _ r h => by simp [impl_ReadWord.l0] at h⟩
  | k + 1 => by
    obtain ⟨ih0, ih1⟩ := impl_ReadWord.mono_l k
    refine ⟨?_, ?_⟩
    · intro y0 y1 y2 y3 y4
      unfold impl_ReadWord.j0
      repeat' first
      | (with_reducible exact ih0 _ _ _ _ _)
      | (with_reducible exact ih1 _ _ _ _ _ _ _)
      | (with_reducible exact LeO.refl _)
      | (with_reducible exact LeO.none _)
      | (with_reducible refine LeO.ite ?_ ?_)
      | (with_reducible refine LeO.bind ?_ (fun _ => ?_))
      | exact ih0 _ _ _ _ _
      | exact ih1 _ _ _ _ _ _ _
      | exact LeO.none _
      | refine LeO.ite ?_ ?_
      | refine LeO.bind ?_ (fun _ => ?_)
    · intro y0 y1 y2 y3 y4 y5 y6
      unfold impl_ReadWord.l0
      repeat' first
      | (with_reducible exact ih0 _ _ _ _ _)
      | (with_reducible exact ih1 _ _ _ _ _ _ _)
      | (with_reducible exact LeO.refl _)
      | (with_reducible exact LeO.none _)
      | (with_reducible refine LeO.ite ?_ ?_)
      | (with_reducible refine LeO.bind ?_ (fun _ => ?_))
      | exact ih0 _ _ _ _ _
      | exact ih1 _ _ _ _ _ _ _
      | exact LeO.none _
      | refine LeO.ite ?_ ?_
      | refine LeO.bind ?_ (fun _ => ?_)
theorem impl_ReadWord.mono : ∀ a0 a1 a2 a3 k, LeO (impl_ReadWord.f k a0 a1 a2 a3) (impl_ReadWord.f (k + 1) a0 a1 a2 a3) := by
  intro a0 a1 a2 a3 k
  obtain ⟨ih0, ih1⟩ := impl_ReadWord.mono_l k
  unfold impl_ReadWord.f
  repeat' first
      | (with_reducible exact ih0 _ _ _ _ _)
      | (with_reducible exact ih1 _ _ _ _ _ _ _)
      | (with_reducible exact LeO.refl _)
      | (with_reducible exact LeO.none _)
      | (with_reducible refine LeO.ite ?_ ?_)
      | (with_reducible refine LeO.bind ?_ (fun _ => ?_))
      | exact ih0 _ _ _ _ _
      | exact ih1 _ _ _ _ _ _ _
      | exact LeO.none _
      | refine LeO.ite ?_ ?_
      | refine LeO.bind ?_ (fun _ => ?_)
set_option maxHeartbeats 8000000 in
set_option maxRecDepth 100000 in
theorem impl_ReadWord.calls (k : Nat) (a0_0 : Int) (a0_1 : Int) (A0_2 : Option Addr) (c0_2 : Nat) (l0_2 : List (S61)) (a1 : ByteArray) (r1 : List Int) (r2 : Int) (r3 : Bool) (w : World) (hr0_2 : Kd.C k61 w A0_2 l0_2.length l0_2) (hc0_2 : l0_2.length ≤ c0_2) (h : impl_ReadWord.f k a0_0 a0_1 l0_2 a1 = some (r1, r2, r3)) :
    Calls Try.prog 33 #[.agg #[.int .i64 a0_0, .int .i64 a0_1, .slice A0_2 l0_2.length c0_2], .string a1] w fun e w' => ∃ v0_ : Value, e = .returned (.tuple #[v0_, .int .i64 r2, .bool r3]) ∧ Kd.R (Kd.int .i64) 3 w' w.heap.size (fun _ => True) v0_ r1 ∧ Below w.heap.size w w' := by
  have hu29 := Try.underlying29
  have HR0_2 := Aside0.mk hr0_2
  have HC0_2 := Aside0.mk hc0_2
  clear hr0_2 hc0_2
  have HB := Aside0.mk (Below.refl w.heap.size w)
  have H : ((impl_isGrammar.f a0_0 a0_1 l0_2).bind fun t102 => (if t102 = true then (impl_ReadWord.j0 k a1 (decide ((a1.size : Int) > 10)) a0_0 a0_1 l0_2) else (impl_ReadWord.j0 k a1 true a0_0 a0_1 l0_2))) = some (r1, r2, r3) := h
  clear h
  have HC3 := Aside0.mk H
  clear H
  go_enter Try.func33, Try.ntmps33
  go_upto_region 1 with (first | ((with_reducible refine gate_dst (N := 2) rfl ?_); (try (refine gate_guard (by rfl) ?_; dsimp only)); refine box_event ?hg (N := 2) ?hd (cs := #[.int .i64 a0_0, .int .i64 a0_1, .slice A0_2 l0_2.length c0_2]) (t := 29) ?hr ?_; (case hd => rfl); (case hg => rfl); (case hr => first | (go_simp; done) | (go_simp; rfl)); intro gb101 hg w4 hbox hb; have n0_ := Aside0.mk (below_step (by repeat (first | (with_reducible first | exact HB.out | apply below_alloc | apply pw_below_drewN | apply below_drew1) | exact HB.out)) hb); have n1_ := Aside0.mk (hbox); have n2_ := Aside0.mk ((by rw [hg]; exact (below_size (by repeat (first | (with_reducible first | exact HB.out | apply below_alloc | apply pw_below_drewN | apply below_drew1) | exact HB.out))) : w.heap.size ≤ gb101)); have n3_ := Aside0.mk ((by rw [hg]; exact (below_size (by repeat (first | (with_reducible first | exact HB.out | apply below_alloc | apply pw_below_drewN | apply below_drew1) | exact HB.out))) : w.heap.size ≤ gb101)); clear HB; have HB := n0_; have BK101 := n1_; have GW101 := n2_; have GE101 := n3_; clear n0_ n1_ n2_ n3_; clear hb hbox hg))
  (try simp only [Act.put, List.setIfInBounds_toArray, List.set_cons_zero, List.set_cons_succ])
  go_cut [17] (fun v17 wc => ∃ (kq : Nat) (x17_2 : Bool), v17 = .bool x17_2 ∧ Aside0 (impl_ReadWord.j0 kq a1 x17_2 a0_0 a0_1 l0_2 = some (r1, r2, r3)) ∧ Aside0 (kq ≤ k) ∧ Aside0 (wc.heap[gb101]? = some (.cells #[.int .i64 a0_0, .int .i64 a0_1, (.slice A0_2 l0_2.length c0_2)] 29 (0, 0))) ∧ Aside0 (Below w.heap.size w wc))
  case first =>
    have H := HC3.out
    clear HC3
    replace H := Option.bind_eq_some_iff.mp H
    obtain ⟨t102, A50, H⟩ := H
    replace H : (if t102 = true then (impl_ReadWord.j0 k a1 (decide ((a1.size : Int) > 10)) a0_0 a0_1 l0_2) else (impl_ReadWord.j0 k a1 true a0_0 a0_1 l0_2)) = some (r1, r2, r3) := H
    have A5 := Aside0.mk A50
    clear A50
    by_cases c6 : t102 = true
    · subst c6
      have H1 : (impl_ReadWord.j0 k a1 (decide ((a1.size : Int) > 10)) a0_0 a0_1 l0_2) = some (r1, r2, r3) := by rw [if_pos rfl] at H; exact H
      clear H
      have H := H1
      clear H1
      have H' := Aside0.mk H
      clear H
      have hcz7_0 : w4.cell? ⟨gb101, 0, none⟩ = some (.int .i64 a0_0) := (blk_cell BK101.out 0).trans rfl
      have hcz7_1 : w4.cell? ⟨gb101, 1, none⟩ = some (.int .i64 a0_1) := (blk_cell BK101.out 1).trans rfl
      have hcz7_2 : w4.cell? ⟨gb101, 2, none⟩ = some (.slice A0_2 l0_2.length c0_2) := (blk_cell BK101.out 2).trans rfl
      have hfz7_0 := blk_frozen BK101.out 0
      have hfz7_1 := blk_frozen BK101.out 1
      have hfz7_2 := blk_frozen BK101.out 2
      go_wp2_with (first | ((with_reducible refine gate_callee (f := 50) rfl ?_); refine goesL_ (some 11) rfl rfl Try.func50 (by kernel_rfl) rfl #[.agg #[.int .i64 a0_0, .int .i64 a0_1, .slice A0_2 l0_2.length c0_2]] rfl (by (try simp only [List.map_toArray, List.map_cons, List.map_nil]); first | done | rfl | (simp only [List.length_drop, List.length_take]; rfl)) ?_; (with_reducible refine (impl_isGrammar.calls a0_0 a0_1 _ _ l0_2 true _ ?side1 ?side2 A5.out).mono ?_); (case side1 => repeat (first | exact (Kd.C_below HR0_2.out HB.out) | (with_reducible refine Kd.C_alloc ?_ _) | (with_reducible refine Kd.C_drewN ?_ _) | (with_reducible refine Kd.C_drew ?_))); (case side2 => exact HC0_2.out); rintro e w8 ⟨rfl, hb⟩; refine ⟨_, rfl, ?_⟩; have n0_ := Aside0.mk (blk_below (g := gb101) (o := .cells #[.int .i64 a0_0, .int .i64 a0_1, .slice A0_2 l0_2.length c0_2] 29 (0, 0)) (by (with_reducible repeat (first | refine blk_drewN ?_ _ | refine blk_drew ?_ | refine blk_alloc ?_ _)); exact BK101.out) hb); have n1_ := Aside0.mk (below_step (by repeat (first | (with_reducible first | exact HB.out | apply below_alloc | apply pw_below_drewN | apply below_drew1 | refine below_set ?_ GE101.out) | exact HB.out)) hb); clear BK101; clear HB; have BK101 := n0_; have HB := n1_; clear n0_ n1_; (try clear hb); (try clear hb2); (try clear hk); (try clear hi)))
      go_meet
      case rel => exact ⟨_, (decide ((a1.size : Int) > 10)), (by first | rfl | (simp; done) | (simp [*]; done)), H', ⟨by first | omega | exact Nat.le_refl _⟩, ⟨by (with_reducible repeat (first | refine blk_drewN ?_ _ | refine blk_drew ?_ | refine blk_alloc ?_ _)); exact BK101.out⟩, ⟨by repeat (first | (with_reducible first | exact HB.out | apply below_alloc | apply pw_below_drewN | apply below_drew1 | refine below_set ?_ GE101.out) | exact HB.out)⟩⟩
    · replace c6 := Bool.eq_false_iff.mpr c6
      subst c6
      have H1 : (impl_ReadWord.j0 k a1 true a0_0 a0_1 l0_2) = some (r1, r2, r3) := by rw [if_neg (show ¬ (false = true) by decide)] at H; exact H
      clear H
      have H := H1
      clear H1
      have H' := Aside0.mk H
      clear H
      have hcz9_0 : w4.cell? ⟨gb101, 0, none⟩ = some (.int .i64 a0_0) := (blk_cell BK101.out 0).trans rfl
      have hcz9_1 : w4.cell? ⟨gb101, 1, none⟩ = some (.int .i64 a0_1) := (blk_cell BK101.out 1).trans rfl
      have hcz9_2 : w4.cell? ⟨gb101, 2, none⟩ = some (.slice A0_2 l0_2.length c0_2) := (blk_cell BK101.out 2).trans rfl
      have hfz9_0 := blk_frozen BK101.out 0
      have hfz9_1 := blk_frozen BK101.out 1
      have hfz9_2 := blk_frozen BK101.out 2
      go_wp2_with (first | ((with_reducible refine gate_callee (f := 50) rfl ?_); refine goesL_ (some 11) rfl rfl Try.func50 (by kernel_rfl) rfl #[.agg #[.int .i64 a0_0, .int .i64 a0_1, .slice A0_2 l0_2.length c0_2]] rfl (by (try simp only [List.map_toArray, List.map_cons, List.map_nil]); first | done | rfl | (simp only [List.length_drop, List.length_take]; rfl)) ?_; (with_reducible refine (impl_isGrammar.calls a0_0 a0_1 _ _ l0_2 false _ ?side1 ?side2 A5.out).mono ?_); (case side1 => repeat (first | exact (Kd.C_below HR0_2.out HB.out) | (with_reducible refine Kd.C_alloc ?_ _) | (with_reducible refine Kd.C_drewN ?_ _) | (with_reducible refine Kd.C_drew ?_))); (case side2 => exact HC0_2.out); rintro e w10 ⟨rfl, hb⟩; refine ⟨_, rfl, ?_⟩; have n0_ := Aside0.mk (blk_below (g := gb101) (o := .cells #[.int .i64 a0_0, .int .i64 a0_1, .slice A0_2 l0_2.length c0_2] 29 (0, 0)) (by (with_reducible repeat (first | refine blk_drewN ?_ _ | refine blk_drew ?_ | refine blk_alloc ?_ _)); exact BK101.out) hb); have n1_ := Aside0.mk (below_step (by repeat (first | (with_reducible first | exact HB.out | apply below_alloc | apply pw_below_drewN | apply below_drew1 | refine below_set ?_ GE101.out) | exact HB.out)) hb); clear BK101; clear HB; have BK101 := n0_; have HB := n1_; clear n0_ n1_; (try clear hb); (try clear hb2); (try clear hk); (try clear hi)))
      go_meet
      case rel => exact ⟨_, (true), (by first | rfl | (simp; done) | (simp [*]; done)), H', ⟨by first | omega | exact Nat.le_refl _⟩, ⟨by (with_reducible repeat (first | refine blk_drewN ?_ _ | refine blk_drew ?_ | refine blk_alloc ?_ _)); exact BK101.out⟩, ⟨by repeat (first | (with_reducible first | exact HB.out | apply below_alloc | apply pw_below_drewN | apply below_drew1 | refine below_set ?_ GE101.out) | exact HB.out)⟩⟩
  case rest =>
    clear HC3
    try clear p2
    try clear c3
    try clear c5
    try clear c6
    try clear hcz7_0
    try clear hcz7_1
    try clear hcz7_2
    try clear hcz9_0
    try clear hcz9_1
    try clear hcz9_2
    try clear hfz7_0
    try clear hfz7_1
    try clear hfz7_2
    try clear hfz9_0
    try clear hfz9_1
    try clear hfz9_2
    obtain ⟨kq, x17_2, rfl, HA, HJ2, BK101, HB⟩ := hcut
    cases kq with
    | zero => exact absurd HA.out (by simp [impl_ReadWord.j0])
    | succ kj2 =>
      have H := HA.out
      clear HA
      simp only [impl_ReadWord.j0] at H
      by_cases c11 : x17_2 = true
      · subst c11
        have H1 : (some (([] : List Int), 0, false)) = some (r1, r2, r3) := by rw [if_pos rfl] at H; exact H
        clear H
        have H := H1
        clear H1
        simp only [Option.some.injEq, Prod.mk.injEq] at H
        obtain ⟨rfl, rfl, rfl⟩ := H
        go_wp2
        go_ret3
        exact ⟨_, by first | rfl | (simp [errW_none, errW_some] <;> rfl) | (simp [*, errW_none, errW_some] <;> rfl), by first | exact Kd.R_nil _ _ _ _ _ | exact Kd.N_nil _ _ _ _ _ | exact Kd.V_nil _ _ _ _ _ | exact Kd.Q_nil _ _ _ _ _ | exact Kd.S_nil _ _ _ _ _, by repeat (first | (with_reducible first | exact HB.out | apply below_alloc | apply pw_below_drewN | apply below_drew1 | refine below_set ?_ GE101.out) | exact HB.out)⟩
      · replace c11 := Bool.eq_false_iff.mpr c11
        subst c11
        have H1 : (impl_ReadWord.l0 kj2 a1 (([] : List Int)) (a1.size : Int) 0 a0_0 a0_1 l0_2) = some (r1, r2, r3) := by rw [if_neg (show ¬ (false = true) by decide)] at H; exact H
        clear H
        have H := H1
        clear H1
        obtain ⟨y103, hy103⟩ : ∃ y_ : List Int, y_ = (([] : List Int)) := ⟨_, rfl⟩
        replace H : (impl_ReadWord.l0 kj2 a1 y103 (a1.size : Int) 0 a0_0 a0_1 l0_2) = some (r1, r2, r3) := by first | (rw [hy103]; with_reducible exact H) | (have H2_ := (Option.bind_some _ _).symm.trans H; rw [hy103]; with_reducible exact H2_) | (have H2_ := (Option.bind_some _ _).symm.trans H; with_reducible exact H2_) | with_reducible exact H | (rw [hy103]; exact H) | exact H
        have Ny103 := Aside0.mk hy103
        clear hy103
        have H' := Aside0.mk H
        clear H
        go_wp2_with (first | ((with_reducible refine gate_dst (N := 18) rfl ?_); (try (refine gate_guard (by rfl) ?_; dsimp only)); refine Kd.R_lit (Kd.int .i64) _ 3 ?hg (N := 18) ?hd (xs := ([] : List Int)) (inner := []) (ok := fun _ => True) (okp := fun _ => True) ?hr ?hp (fun _ hk => hk) trivial (Below.refl _ _) (Nat.le_refl _) (by simp) ?_; (case hd => rfl); (case hg => rfl); (case hr => first | (go_simp; done) | (go_simp; rfl)); (case hp => exact (Reps.none _ _)); intro v104 w12 ho13 hb hg_ hnew_; clear hg_ hnew_; (first | rw [← Ny103.out] at ho13 | (simp only [Int.reduceToNat] at ho13; rw [← Ny103.out] at ho13)); have n0_ := Aside0.mk (Kd.R_lower ho13 (below_size (by repeat (first | (with_reducible first | exact HB.out | apply below_alloc | apply pw_below_drewN | apply below_drew1 | refine below_set ?_ GE101.out) | exact HB.out)))); have n1_ := Aside0.mk (blk_below (g := gb101) (o := .cells #[.int .i64 a0_0, .int .i64 a0_1, .slice A0_2 l0_2.length c0_2] 29 (0, 0)) (by (with_reducible repeat (first | refine blk_drewN ?_ _ | refine blk_drew ?_ | refine blk_alloc ?_ _)); exact BK101.out) hb); have n2_ := Aside0.mk (below_step (by repeat (first | (with_reducible first | exact HB.out | apply below_alloc | apply pw_below_drewN | apply below_drew1 | refine below_set ?_ GE101.out) | exact HB.out)) hb); clear BK101; clear HB; have HO105 := n0_; have BK101 := n1_; have HB := n2_; clear n0_ n1_ n2_; clear hb ho13))
        go_loopg [7, 21] kj2 (fun kq v7 v21 w' => ∃ (x7_2 : List Int) (x21_2 : Int), v21 = .int .i64 x21_2 ∧ Aside0 (impl_ReadWord.l0 kq a1 x7_2 (a1.size : Int) x21_2 a0_0 a0_1 l0_2 = some (r1, r2, r3)) ∧ Aside0 (kq ≤ kj2) ∧ Aside0 (Kd.R (Kd.int .i64) 3 w' w.heap.size (fun _ => True) v7 x7_2) ∧ Aside0 (w'.heap[gb101]? = some (.cells #[.int .i64 a0_0, .int .i64 a0_1, (.slice A0_2 l0_2.length c0_2)] 29 (0, 0))) ∧ Aside0 (Below w.heap.size w w'))
        case atStart => exact ⟨(y103), (0), (by first | rfl | (simp; done) | (simp [*]; done)), H', ⟨Nat.le_refl _⟩, ⟨by (with_reducible repeat (first | apply Kd.R_alloc | apply Kd.R_drewN | apply Kd.R_drew)); exact HO105.out⟩, ⟨by (with_reducible repeat (first | refine blk_drewN ?_ _ | refine blk_drew ?_ | refine blk_alloc ?_ _)); exact BK101.out⟩, ⟨by repeat (first | (with_reducible first | exact HB.out | apply below_alloc | apply pw_below_drewN | apply below_drew1 | refine below_set ?_ GE101.out) | exact HB.out)⟩⟩
        case round =>
          clear H'
          try clear c1
          try clear p2
          try clear c3
          try clear c5
          try clear c6
          try clear c11
          try clear hcz7_0
          try clear hcz7_1
          try clear hcz7_2
          try clear hcz9_0
          try clear hcz9_1
          try clear hcz9_2
          try clear hfz7_0
          try clear hfz7_1
          try clear hfz7_2
          try clear hfz9_0
          try clear hfz9_1
          try clear hfz9_2
          try clear p2
          obtain ⟨x7_2, x21_2, rfl, HA, HK2, HO_7, BK101, HB⟩ := hrel
          cases gk with
          | zero => exact absurd HA.out (by simp [impl_ReadWord.l0])
          | succ k2 =>
            have H := HA.out
            clear HA
            simp only [impl_ReadWord.l0] at H
            by_cases c14 : x21_2 < (a1.size : Int)
            · rw [if_pos c14] at H
              have c14b0 : decide (x21_2 < (a1.size : Int)) = true := decide_eq_true c14
              clear c14
              by_cases c15 : 0 ≤ x21_2
              · rw [if_pos c15] at H
                have c15b0 : decide (0 ≤ x21_2) = true := decide_eq_true c15
                clear c15
                by_cases c16 : x21_2 < (a1.size : Int)
                · rw [if_pos c16] at H
                  have c16b0 : decide (x21_2 < (a1.size : Int)) = true := decide_eq_true c16
                  clear c16
                  replace H := Option.bind_eq_some_iff.mp H
                  obtain ⟨t106, A180, H⟩ := H
                  replace H : (if t106 = true then (if x7_2.length < 17592186044416 then (impl_ReadWord.l0 k2 a1 (x7_2 ++ [wrap64 ((wrap64 (bt a1 x21_2)) - 97)]) (a1.size : Int) (wrap64 (x21_2 + 1)) a0_0 a0_1 l0_2) else (none)) else (some (([] : List Int), x21_2, false))) = some (r1, r2, r3) := H
                  have A18 := Aside0.mk A180
                  clear A180
                  by_cases c19 : t106 = true
                  · subst c19
                    have H1 : (if x7_2.length < 17592186044416 then (impl_ReadWord.l0 k2 a1 (x7_2 ++ [wrap64 ((wrap64 (bt a1 x21_2)) - 97)]) (a1.size : Int) (wrap64 (x21_2 + 1)) a0_0 a0_1 l0_2) else (none)) = some (r1, r2, r3) := by rw [if_pos rfl] at H; exact H
                    clear H
                    have H := H1
                    clear H1
                    by_cases c20 : x7_2.length < 17592186044416
                    · rw [if_pos c20] at H
                      have LMc20 := Aside0.mk c20
                      clear c20
                      obtain ⟨y107, hy107⟩ : ∃ y_ : List Int, y_ = (x7_2 ++ [wrap64 ((wrap64 (bt a1 x21_2)) - 97)]) := ⟨_, rfl⟩
                      replace H : (impl_ReadWord.l0 k2 a1 y107 (a1.size : Int) (wrap64 (x21_2 + 1)) a0_0 a0_1 l0_2) = some (r1, r2, r3) := by first | (rw [hy107]; with_reducible exact H) | (have H2_ := (Option.bind_some _ _).symm.trans H; rw [hy107]; with_reducible exact H2_) | (have H2_ := (Option.bind_some _ _).symm.trans H; with_reducible exact H2_) | with_reducible exact H | (rw [hy107]; exact H) | exact H
                      have Ny107 := Aside0.mk hy107
                      clear hy107
                      have H' := Aside0.mk H
                      clear H
                      have p17 : 0 ≤ (x21_2 : Int) := of_decide_eq_true (by first | (with_reducible assumption) | assumption)
                      have q17 : x21_2 < (a1.size : Int) := of_decide_eq_true (by first | (with_reducible assumption) | assumption)
                      have hx17 := bt_at a1 x21_2
                      replace p17 := eq_true p17
                      replace q17 := eq_true q17
                      have hcz21_0 : wr.cell? ⟨gb101, 0, none⟩ = some (.int .i64 a0_0) := (blk_cell BK101.out 0).trans rfl
                      have hcz21_1 : wr.cell? ⟨gb101, 1, none⟩ = some (.int .i64 a0_1) := (blk_cell BK101.out 1).trans rfl
                      have hcz21_2 : wr.cell? ⟨gb101, 2, none⟩ = some (.slice A0_2 l0_2.length c0_2) := (blk_cell BK101.out 2).trans rfl
                      have hfz21_0 := blk_frozen BK101.out 0
                      have hfz21_1 := blk_frozen BK101.out 1
                      have hfz21_2 := blk_frozen BK101.out 2
                      go_wp2_with (first | ((with_reducible refine gate_callee (f := 57) rfl ?_); refine goesL_ (some 33) rfl rfl Try.func57 (by kernel_rfl) rfl #[.int .i64 (wrap64 ((wrap64 (bt a1 x21_2)) - 97)), .int .i64 0, .int .i64 (wrap64 (a0_1 - 1))] rfl (by (try simp only [List.map_toArray, List.map_cons, List.map_nil]); first | done | rfl | (simp only [List.length_drop, List.length_take]; rfl)) ?_; (with_reducible refine (impl_in.calls (wrap64 ((wrap64 (bt a1 x21_2)) - 97)) 0 (wrap64 (a0_1 - 1)) true _ A18.out).mono ?_); rintro e w' ⟨rfl, ⟨nd, rfl⟩⟩; refine ⟨_, rfl, ?_⟩) | ((with_reducible refine gate_builtin (b := .append) (xs := #[.tmp 36, .tmp 38]) rfl ?_); (try (refine gate_guard (by rfl) ?_; dsimp only)); at_builtin; refine Kd.R_append (Kd.int .i64) (w0 := w) w.heap.size rfl (.tmp 36) (.tmp 38) 33 3 (.int .i64 0) 8 rfl Try.underlying33 info3 rfl (by decide) (by omega) u7 x7_2 (wrap64 ((wrap64 (bt a1 x21_2)) - 97)) [.int .i64 (wrap64 ((wrap64 (bt a1 x21_2)) - 97))] (fun _ => True) (fun _ => False) rfl rfl ?aP (fun _ hk => hk.elim) ?aF ?aO ?aB ?aS ?aL ?_; (case aP => exact rfl); (case aB => exact (by repeat (first | (with_reducible first | exact HB.out | apply below_alloc | apply pw_below_drewN | apply below_drew1 | refine below_set ?_ GE101.out) | exact HB.out))); (case aF => exact (fun _ _ => trivial)); (case aO => exact (by (with_reducible repeat (first | apply Kd.R_alloc | apply Kd.R_drewN | apply Kd.R_drew)); exact HO_7.out)); (case aS => exact (below_size (by repeat (first | (with_reducible first | exact HB.out | apply below_alloc | apply pw_below_drewN | apply below_drew1 | refine below_set ?_ GE101.out) | exact HB.out)))); (case aL => have := LMc20.out; omega); intro v108 w22 ho hb hg hat; rw [← Ny107.out] at ho; have n0_ := Aside0.mk (blk_grown (g := gb101) (o := .cells #[.int .i64 a0_0, .int .i64 a0_1, .slice A0_2 l0_2.length c0_2] 29 (0, 0)) (by (with_reducible repeat (first | refine blk_drewN ?_ _ | refine blk_drew ?_ | refine blk_alloc ?_ _)); exact BK101.out) hg (Kd.R_ne HO_7.out BK101.out (by decide))); have n1_ := Aside0.mk (hb); have n2_ := Aside0.mk (ho); clear BK101; clear HB; clear HO_7; have BK101 := n0_; have HB := n1_; have HO109 := n2_; clear n0_ n1_ n2_; clear ho hb hg hat))
                      go_roundg k2
                      case measure => have := HJ2.out; have := HK2.out; omega
                      case rel => exact ⟨(y107), (wrap64 (x21_2 + 1)), (by first | rfl | (simp; done) | (simp [*]; done)), H', ⟨by have := HJ2.out; have := HK2.out; omega⟩, ⟨by (with_reducible repeat (first | apply Kd.R_alloc | apply Kd.R_drewN | apply Kd.R_drew)); exact HO109.out⟩, ⟨by (with_reducible repeat (first | refine blk_drewN ?_ _ | refine blk_drew ?_ | refine blk_alloc ?_ _)); exact BK101.out⟩, ⟨by repeat (first | (with_reducible first | exact HB.out | apply below_alloc | apply pw_below_drewN | apply below_drew1 | refine below_set ?_ GE101.out) | exact HB.out)⟩⟩
                    · rw [if_neg c20] at H
                      exact absurd H (by simp)
                  · replace c19 := Bool.eq_false_iff.mpr c19
                    subst c19
                    have H1 : (some (([] : List Int), x21_2, false)) = some (r1, r2, r3) := by rw [if_neg (show ¬ (false = true) by decide)] at H; exact H
                    clear H
                    have H := H1
                    clear H1
                    simp only [Option.some.injEq, Prod.mk.injEq] at H
                    obtain ⟨rfl, rfl, rfl⟩ := H
                    have p17 : 0 ≤ (x21_2 : Int) := of_decide_eq_true (by first | (with_reducible assumption) | assumption)
                    have q17 : x21_2 < (a1.size : Int) := of_decide_eq_true (by first | (with_reducible assumption) | assumption)
                    have hx17 := bt_at a1 x21_2
                    replace p17 := eq_true p17
                    replace q17 := eq_true q17
                    have hcz23_0 : wr.cell? ⟨gb101, 0, none⟩ = some (.int .i64 a0_0) := (blk_cell BK101.out 0).trans rfl
                    have hcz23_1 : wr.cell? ⟨gb101, 1, none⟩ = some (.int .i64 a0_1) := (blk_cell BK101.out 1).trans rfl
                    have hcz23_2 : wr.cell? ⟨gb101, 2, none⟩ = some (.slice A0_2 l0_2.length c0_2) := (blk_cell BK101.out 2).trans rfl
                    have hfz23_0 := blk_frozen BK101.out 0
                    have hfz23_1 := blk_frozen BK101.out 1
                    have hfz23_2 := blk_frozen BK101.out 2
                    go_wp2_with (first | ((with_reducible refine gate_callee (f := 57) rfl ?_); refine goesL_ (some 33) rfl rfl Try.func57 (by kernel_rfl) rfl #[.int .i64 (wrap64 ((wrap64 (bt a1 x21_2)) - 97)), .int .i64 0, .int .i64 (wrap64 (a0_1 - 1))] rfl (by (try simp only [List.map_toArray, List.map_cons, List.map_nil]); first | done | rfl | (simp only [List.length_drop, List.length_take]; rfl)) ?_; (with_reducible refine (impl_in.calls (wrap64 ((wrap64 (bt a1 x21_2)) - 97)) 0 (wrap64 (a0_1 - 1)) false _ A18.out).mono ?_); rintro e w' ⟨rfl, ⟨nd, rfl⟩⟩; refine ⟨_, rfl, ?_⟩))
                    go_ret3
                    exact ⟨_, by first | rfl | (simp [errW_none, errW_some] <;> rfl) | (simp [*, errW_none, errW_some] <;> rfl), by first | exact Kd.R_nil _ _ _ _ _ | exact Kd.N_nil _ _ _ _ _ | exact Kd.V_nil _ _ _ _ _ | exact Kd.Q_nil _ _ _ _ _ | exact Kd.S_nil _ _ _ _ _, by repeat (first | (with_reducible first | exact HB.out | apply below_alloc | apply pw_below_drewN | apply below_drew1 | refine below_set ?_ GE101.out) | exact HB.out)⟩
                · rw [if_neg c16] at H
                  exact absurd H (by simp)
              · rw [if_neg c15] at H
                exact absurd H (by simp)
            · rw [if_neg c14] at H
              have c14b0 : decide (x21_2 < (a1.size : Int)) = false := decide_eq_false c14
              clear c14
              simp only [Option.some.injEq, Prod.mk.injEq] at H
              obtain ⟨rfl, rfl, rfl⟩ := H
              go_wp2
              go_ret3
              exact ⟨_, by first | rfl | (simp [errW_none, errW_some] <;> rfl) | (simp [*, errW_none, errW_some] <;> rfl), by (with_reducible repeat (first | apply Kd.R_alloc | apply Kd.R_drewN | apply Kd.R_drew)); exact HO_7.out, by repeat (first | (with_reducible first | exact HB.out | apply below_alloc | apply pw_below_drewN | apply below_drew1 | refine below_set ?_ GE101.out) | exact HB.out)⟩

end Go.Proofs.Ytbcfoljdejmigaa.P

/-! Z0FnExactReadWord -/
/- Plain lists: ReadWord of the reference answers what that of the program answers. -/
namespace Go.Proofs.Ytbcfoljdejmigaa.P
open Go.RowKit Go.Proofs.YtbcfoljdejmigaaW.PrintWords
set_option linter.unusedVariables false
set_option linter.unusedSimpArgs false
theorem goodG_toks {n t : Int} {l : List S61} (h : goodG n t l = true) : 1 ≤ n ∧ n ≤ 6 ∧ 1 ≤ t ∧ t ≤ 4 ∧ l.length ≤ 16 := by
  simp only [goodG, Bool.and_eq_true, decide_eq_true_eq] at h
  omega
theorem bt_abcd (j : Nat) (h : j < 4) : bt (⟨#[97, 98, 99, 100]⟩ : ByteArray) (j : Int) = 97 + (j : Int) := by
  match j, h with
  | 0, _ => rfl
  | 1, _ => rfl
  | 2, _ => rfl
  | 3, _ => rfl
theorem l2Sym_loop (t c : Int) (ht : t ≤ 4) (d : Nat) : ∀ (k j : Nat), (j : Int) + d = t → d < k → spec_l2Symbol.l1 k t c j = some (if 97 + (j : Int) ≤ c ∧ c < 97 + t then (96 - c, true) else (0, false)) := by
  induction d with
  | zero =>
    intro k j hj hk
    obtain ⟨k, rfl⟩ : ∃ m, k = m + 1 := ⟨k - 1, by omega⟩
    simp only [spec_l2Symbol.l1]
    rw [if_neg (by omega), if_neg (by omega)]
  | succ d ih =>
    intro k j hj hk
    obtain ⟨k, rfl⟩ : ∃ m, k = m + 1 := ⟨k - 1, by omega⟩
    simp only [spec_l2Symbol.l1]
    rw [if_pos (by omega), if_pos (by omega), if_pos (by omega), bt_abcd j (by omega)]
    by_cases e : 97 + (j : Int) = c
    · rw [if_pos e, if_pos (by omega), show wrap64 (-1 - (j : Int)) = 96 - c by unfold wrap64; omega]
    · rw [if_neg e, show wrap64 ((j : Int) + 1) = ((j + 1 : Nat) : Int) by unfold wrap64; omega, ih k (j + 1) (by omega) (by omega)]
      by_cases g : 97 + ((j + 1 : Nat) : Int) ≤ c ∧ c < 97 + t
      · rw [if_pos g, if_pos (by omega)]
      · rw [if_neg g, if_neg (by omega)]
theorem l2Sym_tok (t c : Int) (h1 : 1 ≤ t) (h4 : t ≤ 4) (k : Nat) (hk : 8 ≤ k) : spec_l2Symbol.f k 0 t c = some (if 97 ≤ c ∧ c < 97 + t then (96 - c, true) else (0, false)) := by
  obtain ⟨k, rfl⟩ : ∃ m, k = m + 1 := ⟨k - 1, by omega⟩
  unfold spec_l2Symbol.f
  simp only [spec_l2Symbol.l0]
  rw [if_neg (by omega), show (0 : Int) = ((0 : Nat) : Int) from rfl, l2Sym_loop t c h4 t.toNat k 0 (by omega) (by omega)]
  simp
theorem bt_lt (s : ByteArray) (i : Int) : 0 ≤ bt s i ∧ bt s i ≤ 255 := bt_range s i
theorem readWord_loop (n t : Int) (l : List S61) (h1 : 1 ≤ t) (h4 : t ≤ 4) (s : ByteArray) (hs : s.size ≤ 1048576) (d : Nat) : ∀ (i : Nat) (a : List Int), i ≤ s.size → s.size - i = d → a.length ≤ i →
    ∃ (r : List Int) (q : Int) (b : Bool), r.length ≤ 1048576 ∧ ∀ k, d + 10 < k → spec_ReadWord.l0 k s a i n t l = some (r, q, b) ∧ impl_ReadWord.l0 k s a s.size i n t l = some (r, q, b) := by
  induction d with
  | zero =>
    intro i a hi hd ha
    refine ⟨a, 0, true, by omega, fun k hk => ?_⟩
    obtain ⟨k, rfl⟩ : ∃ m, k = m + 1 := ⟨k - 1, by omega⟩
    simp only [spec_ReadWord.l0, impl_ReadWord.l0]
    rw [if_neg (by omega), if_neg (by omega)]
    exact ⟨rfl, rfl⟩
  | succ d ih =>
    intro i a hi hd ha
    have e1 : wrap64 ((i : Int) + 1) = ((i + 1 : Nat) : Int) := by unfold wrap64; omega
    obtain ⟨c, hc⟩ : ∃ c, c = bt s i := ⟨_, rfl⟩
    have hb : 0 ≤ c ∧ c ≤ 255 := by rw [hc]; exact bt_lt s i
    have e2 : wrap64 (wrap64 c - 97) = c - 97 := by unfold wrap64; omega
    have e3 : wrap64 (t - 1) = t - 1 := by unfold wrap64; omega
    by_cases g : 97 ≤ c ∧ c < 97 + t
    · obtain ⟨r, q, b, hr, h⟩ := ih (i + 1) (a ++ [c - 97]) (by omega) (by omega) (by simp; omega)
      refine ⟨r, q, b, hr, fun k hk => ?_⟩
      obtain ⟨k, rfl⟩ : ∃ m, k = m + 1 := ⟨k - 1, by omega⟩
      simp only [spec_ReadWord.l0, impl_ReadWord.l0, impl_in_eq]
      rw [← hc, e2, e3, if_pos (by omega), if_pos (by omega), l2Sym_tok t c h1 h4 k (by omega), if_pos g, if_pos (by omega), if_pos (by omega), if_pos (by omega)]
      simp only [Option.bind_some]
      rw [if_pos trivial, if_pos (by omega), show wrap64 (-1 - (96 - c)) = c - 97 by unfold wrap64; omega, if_pos (by simp; omega), if_pos (by omega), e1]
      exact h k (by omega)
    · refine ⟨[], i, false, by simp, fun k hk => ?_⟩
      obtain ⟨k, rfl⟩ : ∃ m, k = m + 1 := ⟨k - 1, by omega⟩
      simp only [spec_ReadWord.l0, impl_ReadWord.l0, impl_in_eq]
      rw [← hc, e2, e3, if_pos (by omega), if_pos (by omega), l2Sym_tok t c h1 h4 k (by omega), if_neg g, if_pos (by omega), if_pos (by omega), if_pos (by omega)]
      simp only [Option.bind_some]
      rw [if_neg (by simp), if_neg (by simp; omega)]
      exact ⟨rfl, rfl⟩
theorem pure_ReadWord (n t : Int) (l : List S61) (hs : smallI l) (s : ByteArray) (hz : s.size ≤ 1048576) :
    ∃ (r : List Int) (q : Int) (b : Bool), r.length ≤ 1048576 ∧ Ev (fun k => spec_ReadWord.f k n t l s) (r, q, b) ∧ Ev (fun k => impl_ReadWord.f k n t l s) (r, q, b) := by
  obtain ⟨K, hg⟩ := spec_GoodGrammar_ev n t l hs
  try dsimp only at hg
  by_cases c : goodG n t l = true
  · obtain ⟨_, _, h1, h4, _⟩ := goodG_toks c
    obtain ⟨r, q, b, hr, h⟩ := readWord_loop n t l h1 h4 s hz s.size 0 [] (by omega) (by omega) (by simp)
    by_cases c2 : (s.size : Int) > 10
    · refine ⟨[], 0, false, by simp, ⟨K + 2, fun k hk => ?_⟩, ⟨2, fun k hk => ?_⟩⟩
      · dsimp only
        obtain ⟨k, rfl⟩ : ∃ m, k = m + 1 := ⟨k - 1, by omega⟩
        unfold spec_ReadWord.f
        rw [hg _ (by omega)]; simp only [Option.bind_some]
        rw [if_pos c, decide_eq_true c2]; simp [spec_ReadWord.j0]
      · dsimp only
        obtain ⟨k, rfl⟩ : ∃ m, k = m + 1 := ⟨k - 1, by omega⟩
        unfold impl_ReadWord.f impl_isGrammar.f
        simp only [Option.bind_some]
        rw [if_pos c, decide_eq_true c2]; simp [impl_ReadWord.j0]
    · refine ⟨r, q, b, hr, ⟨K + s.size + 20, fun k hk => ?_⟩, ⟨s.size + 20, fun k hk => ?_⟩⟩
      · dsimp only
        obtain ⟨k, rfl⟩ : ∃ m, k = m + 1 := ⟨k - 1, by omega⟩
        unfold spec_ReadWord.f
        rw [hg _ (by omega)]; simp only [Option.bind_some]
        rw [if_pos c, decide_eq_false c2]
        simp only [spec_ReadWord.j0]
        rw [if_neg (by simp), show (0 : Int) = ((0 : Nat) : Int) from rfl, (h k (by omega)).1]
      · dsimp only
        obtain ⟨k, rfl⟩ : ∃ m, k = m + 1 := ⟨k - 1, by omega⟩
        unfold impl_ReadWord.f impl_isGrammar.f
        simp only [Option.bind_some]
        rw [if_pos c, decide_eq_false c2]
        simp only [impl_ReadWord.j0]
        rw [if_neg (by simp), show (0 : Int) = ((0 : Nat) : Int) from rfl, (h k (by omega)).2]
  · refine ⟨[], 0, false, by simp, ⟨K + 2, fun k hk => ?_⟩, ⟨2, fun k hk => ?_⟩⟩
    · dsimp only
      obtain ⟨k, rfl⟩ : ∃ m, k = m + 1 := ⟨k - 1, by omega⟩
      unfold spec_ReadWord.f
      rw [hg _ (by omega)]; simp only [Option.bind_some]
      rw [if_neg c]; simp [spec_ReadWord.j0]
    · dsimp only
      obtain ⟨k, rfl⟩ : ∃ m, k = m + 1 := ⟨k - 1, by omega⟩
      unfold impl_ReadWord.f impl_isGrammar.f
      simp only [Option.bind_some]
      rw [if_neg c]; simp [impl_ReadWord.j0]
end Go.Proofs.Ytbcfoljdejmigaa.P

/-! ZFnExactReadWord -/
/- The law of ReadWord answers true, whatever came in. Written by wip/tools/lawgen.py of this session. -/
namespace Go.Proofs.Ytbcfoljdejmigaa.P
open Go.RowKit Go.Proofs.YtbcfoljdejmigaaW.PrintWords Go.Proofs.YtbcfoljdejmigaaW.PrintLast Go.Proofs.YtbcfoljdejmigaaW.PrintMore
set_option linter.unusedVariables false
set_option linter.unusedSimpArgs false
set_option maxHeartbeats 16000000 in
set_option maxRecDepth 100000 in
theorem holds_FnExactReadWord (w : World) (a0_0 : Int) (a0_1 : Int) (A0_2 : Option Addr) (c0_2 : Nat) (l0_2 : List S88) (hr0_2 : Kd.C k88 w A0_2 l0_2.length l0_2) (hc0_2 : l0_2.length ≤ c0_2) (a1 : ByteArray) (ys1 : a1.size ≤ 9223372036854775807) :
    Calls Try.prog 8 #[.agg #[.int .i64 a0_0, .int .i64 a0_1, .slice A0_2 l0_2.length c0_2], .string a1] w fun e w' => e = .returned (.bool true) ∧ Below w.heap.size w w' := by
  have hu0 := Try.underlying24
  have hu1 := Try.underlying29
  have HB := Aside0.mk (Below.refl w.heap.size w)
  by_cases hL1 : a1.size ≤ 1048576
  rotate_left
  · have d1_ : decide ((1048576 : Int) < (a1.size : Int)) = true := decide_eq_true (by omega)
    have d2_ : decide (1048576 < a1.size) = true := decide_eq_true (by omega)
    clear hL1
    go_enter Try.func8, Try.ntmps8
    go_wp2
    go_ret
    exact ⟨rfl, by repeat (first | (with_reducible first | exact HB.out | apply below_alloc | apply pw_below_drewN | apply below_drew1) | exact HB.out)⟩
  have dA1 : decide ((1048576 : Int) < (a1.size : Int)) = false := decide_eq_false (by omega)
  have dB1 : decide (1048576 < a1.size) = false := decide_eq_false (by omega)
  obtain ⟨hq0, hw0⟩ := reads_small hr0_2
  obtain ⟨t0, hze0, htl0, hsm0⟩ := szGrammar_fr a0_0 a0_1 l0_2 hq0 hw0 1048576 (by omega) (by omega)
  obtain ⟨kz0, hz0⟩ := hze0.rounds
  try dsimp only at hz0
  by_cases hT0 : t0 < 0
  · have dt_ : decide (t0 < 0) = true := decide_eq_true hT0
    clear hT0
    go_enter Try.func8, Try.ntmps8
    go_wp2_with fail
    refine (laws_szGrammar.calls kz0 a0_0 a0_1 A0_2 c0_2 l0_2 1048576 t0 _ (Kd.C_below hr0_2 (by repeat (first | (with_reducible first | exact HB.out | apply below_alloc | apply pw_below_drewN | apply below_drew1) | exact HB.out))) hc0_2 hz0).mono ?_
    rintro e w0_ ⟨rfl, hb⟩
    have nB := Aside0.mk (below_step (by repeat (first | (with_reducible first | exact HB.out | apply below_alloc | apply pw_below_drewN | apply below_drew1) | exact HB.out)) hb)
    have BA0_ := Aside0.mk (blk_below (o := .cells #[.int .i64 a0_0, .int .i64 a0_1, .slice A0_2 l0_2.length c0_2] 24 (0, 0)) (heap_alloc_new w _) hb)
    clear HB hb
    have HB := nB
    clear nB
    go_wp2
    go_ret
    exact ⟨rfl, by repeat (first | (with_reducible first | exact HB.out | apply below_alloc | apply pw_below_drewN | apply below_drew1) | exact HB.out)⟩
  have dt0 : decide (t0 < 0) = false := decide_eq_false hT0
  have hs0 := hsm0 (by omega)
  obtain ⟨kt0, ht0⟩ := (toGrammar_ev a0_0 a0_1 l0_2 hs0).rounds
  obtain ⟨r0, r1, r2, hr0, es, ei⟩ := pure_ReadWord a0_0 a0_1 (convs l0_2) (smallI_convs hs0) a1 hL1
  obtain ⟨ks, hks⟩ := es.rounds
  obtain ⟨ki, hki⟩ := ei.rounds
  obtain ⟨ke0, hke0⟩ := (eqIntS_ev r0 (by omega)).rounds
  obtain ⟨kx0, hkx0⟩ := (eqGrammar_ev a0_0 a0_1 (convs l0_2) (smallI_convs hs0)).rounds
  have bx0 := szR_bound (smallI_convs hs0)
  have br0 : (r0.length : Int) ≤ 1048576 := by omega
  try dsimp only at ht0 hks hki hke0 hkx0
  clear es ei
  clear hT0 hq0 hw0 hze0 hsm0 htl0
  have KEEP0 := Aside0.mk hs0
  clear hs0
  go_enter Try.func8, Try.ntmps8
  go_wp2_with fail
  refine (laws_szGrammar.calls kz0 a0_0 a0_1 A0_2 c0_2 l0_2 1048576 t0 _ (Kd.C_below hr0_2 (by repeat (first | (with_reducible first | exact HB.out | apply below_alloc | apply pw_below_drewN | apply below_drew1) | exact HB.out))) hc0_2 hz0).mono ?_
  rintro e w1 ⟨rfl, hb⟩
  have HSZ := Aside0.mk (show w.heap.size + 1 ≤ w1.heap.size by have h_ := hb.size; (try simp at h_); omega)
  have nB := Aside0.mk (below_step (by repeat (first | (with_reducible first | exact HB.out | apply below_alloc | apply pw_below_drewN | apply below_drew1) | exact HB.out)) hb)
  have nBA0 := Aside0.mk (blk_below (o := .cells #[.int .i64 a0_0, .int .i64 a0_1, .slice A0_2 l0_2.length c0_2] 24 (0, 0)) (heap_alloc_new w _) hb)
  clear HB 
  have HB := nB
  have BA0 := nBA0
  clear nB nBA0
  have Z1 := HSZ
  clear HSZ
  have cBA0_0 : w1.cell? ⟨w.heap.size, 0, none⟩ = some (.int .i64 a0_0) := (blk_cell BA0.out 0).trans rfl
  have cBA0_1 : w1.cell? ⟨w.heap.size, 1, none⟩ = some (.int .i64 a0_1) := (blk_cell BA0.out 1).trans rfl
  have cBA0_2 : w1.cell? ⟨w.heap.size, 2, none⟩ = some (.slice A0_2 l0_2.length c0_2) := (blk_cell BA0.out 2).trans rfl
  go_wp2_with fail
  clear cBA0_0 cBA0_1 cBA0_2
  refine (laws_toGrammar.calls kt0 a0_0 a0_1 A0_2 c0_2 l0_2 a0_0 a0_1 (convs l0_2) _ (Kd.C_below hr0_2 (by repeat (first | (with_reducible first | exact HB.out | apply below_alloc | apply pw_below_drewN | apply below_drew1) | exact HB.out))) hc0_2 ht0).mono ?_
  rintro e w2 ⟨v0, rfl, ho0, hb⟩
  obtain ⟨A102_0, c102_0, ev_⟩ := Kd.S_slice ho0
  subst ev_
  have NO2_0 := Aside0.mk (Kd.S_mono (ok' := fun q_ => w1.heap.size + 0 ≤ q_ ∧ q_ < w2.heap.size) (Kd.S_lower (Kd.S_bound ho0) (below_size (by repeat (first | (with_reducible first | exact HB.out | apply below_alloc | apply pw_below_drewN | apply below_drew1) | exact HB.out)))) (fun q_ h_ => ⟨by have h2_ := h_.2.1; (try simp at h2_); omega, h_.2.2.1⟩))
  clear ho0
  have HSZ := Aside0.mk (show w1.heap.size + 0 ≤ w2.heap.size by have h_ := hb.size; (try simp at h_); omega)
  have nB := Aside0.mk (below_step (by repeat (first | (with_reducible first | exact HB.out | apply below_alloc | apply pw_below_drewN | apply below_drew1) | exact HB.out)) hb)
  have nBA0 := Aside0.mk (blk_below (g := w.heap.size) (o := .cells #[.int .i64 a0_0, .int .i64 a0_1, .slice A0_2 l0_2.length c0_2] 24 (0, 0)) (by (with_reducible repeat (first | refine blk_drewN ?_ _ | refine blk_drew ?_ | refine blk_alloc ?_ _)); exact BA0.out) hb)
  clear HB BA0
  have HB := nB
  have BA0 := nBA0
  clear nB nBA0
  have Z2 := HSZ
  clear HSZ
  have cBA0_0 : w2.cell? ⟨w.heap.size, 0, none⟩ = some (.int .i64 a0_0) := (blk_cell BA0.out 0).trans rfl
  have cBA0_1 : w2.cell? ⟨w.heap.size, 1, none⟩ = some (.int .i64 a0_1) := (blk_cell BA0.out 1).trans rfl
  have cBA0_2 : w2.cell? ⟨w.heap.size, 2, none⟩ = some (.slice A0_2 l0_2.length c0_2) := (blk_cell BA0.out 2).trans rfl
  have O2_0 := NO2_0
  clear NO2_0
  go_wp2_with fail
  clear cBA0_0 cBA0_1 cBA0_2
  refine (spec_ReadWord.calls ks a0_0 a0_1 _ _ (convs l0_2) a1 r0 r1 r2 _ (Kd.S_reads' (by (with_reducible repeat (first | apply Kd.S_alloc | apply Kd.S_drewN | apply Kd.S_drew)); exact O2_0.out)).2.2 (Kd.S_reads' O2_0.out).2.1 hks).mono ?_
  rintro e w3 ⟨v0, rfl, ho0, hb⟩
  obtain ⟨A103_0, c103_0, ev_⟩ := Kd.R_slice ho0
  subst ev_
  have NO3_0 := Aside0.mk (Kd.R_mono (ok' := fun q_ => w2.heap.size + 0 ≤ q_ ∧ q_ < w3.heap.size) (Kd.R_lower (Kd.R_bound ho0) (below_size (by repeat (first | (with_reducible first | exact HB.out | apply below_alloc | apply pw_below_drewN | apply below_drew1) | exact HB.out)))) (fun q_ h_ => ⟨by have h2_ := h_.2.1; (try simp at h2_); omega, h_.2.2.1⟩))
  clear ho0
  have HSZ := Aside0.mk (show w2.heap.size + 0 ≤ w3.heap.size by have h_ := hb.size; (try simp at h_); omega)
  have nB := Aside0.mk (below_step (by repeat (first | (with_reducible first | exact HB.out | apply below_alloc | apply pw_below_drewN | apply below_drew1) | exact HB.out)) hb)
  have nO2_0 := Aside0.mk (Kd.S_below (by (with_reducible repeat (first | apply Kd.S_alloc | apply Kd.S_drewN | apply Kd.S_drew)); exact O2_0.out) hb)
  have nBA0 := Aside0.mk (blk_below (g := w.heap.size) (o := .cells #[.int .i64 a0_0, .int .i64 a0_1, .slice A0_2 l0_2.length c0_2] 24 (0, 0)) (by (with_reducible repeat (first | refine blk_drewN ?_ _ | refine blk_drew ?_ | refine blk_alloc ?_ _)); exact BA0.out) hb)
  clear HB O2_0 BA0
  have HB := nB
  have O2_0 := nO2_0
  have BA0 := nBA0
  clear nB nO2_0 nBA0
  have Z3 := HSZ
  clear HSZ
  have cBA0_0 : w3.cell? ⟨w.heap.size, 0, none⟩ = some (.int .i64 a0_0) := (blk_cell BA0.out 0).trans rfl
  have cBA0_1 : w3.cell? ⟨w.heap.size, 1, none⟩ = some (.int .i64 a0_1) := (blk_cell BA0.out 1).trans rfl
  have cBA0_2 : w3.cell? ⟨w.heap.size, 2, none⟩ = some (.slice A0_2 l0_2.length c0_2) := (blk_cell BA0.out 2).trans rfl
  have O3_0 := NO3_0
  clear NO3_0
  go_wp2_with fail
  clear cBA0_0 cBA0_1 cBA0_2
  refine (laws_toGrammar.calls kt0 a0_0 a0_1 A0_2 c0_2 l0_2 a0_0 a0_1 (convs l0_2) _ (Kd.C_below hr0_2 (by repeat (first | (with_reducible first | exact HB.out | apply below_alloc | apply pw_below_drewN | apply below_drew1) | exact HB.out))) hc0_2 ht0).mono ?_
  rintro e w4 ⟨v0, rfl, ho0, hb⟩
  obtain ⟨A104_0, c104_0, ev_⟩ := Kd.S_slice ho0
  subst ev_
  have NO4_0 := Aside0.mk (Kd.S_mono (ok' := fun q_ => w3.heap.size + 0 ≤ q_ ∧ q_ < w4.heap.size) (Kd.S_lower (Kd.S_bound ho0) (below_size (by repeat (first | (with_reducible first | exact HB.out | apply below_alloc | apply pw_below_drewN | apply below_drew1) | exact HB.out)))) (fun q_ h_ => ⟨by have h2_ := h_.2.1; (try simp at h2_); omega, h_.2.2.1⟩))
  clear ho0
  have HSZ := Aside0.mk (show w3.heap.size + 0 ≤ w4.heap.size by have h_ := hb.size; (try simp at h_); omega)
  have nB := Aside0.mk (below_step (by repeat (first | (with_reducible first | exact HB.out | apply below_alloc | apply pw_below_drewN | apply below_drew1) | exact HB.out)) hb)
  have nO3_0 := Aside0.mk (Kd.R_below (by (with_reducible repeat (first | apply Kd.R_alloc | apply Kd.R_drewN | apply Kd.R_drew)); exact O3_0.out) hb)
  have nBA0 := Aside0.mk (blk_below (g := w.heap.size) (o := .cells #[.int .i64 a0_0, .int .i64 a0_1, .slice A0_2 l0_2.length c0_2] 24 (0, 0)) (by (with_reducible repeat (first | refine blk_drewN ?_ _ | refine blk_drew ?_ | refine blk_alloc ?_ _)); exact BA0.out) hb)
  clear HB O3_0 BA0
  have HB := nB
  have O3_0 := nO3_0
  have BA0 := nBA0
  clear nB nO3_0 nBA0
  have Z4 := HSZ
  clear HSZ
  have cBA0_0 : w4.cell? ⟨w.heap.size, 0, none⟩ = some (.int .i64 a0_0) := (blk_cell BA0.out 0).trans rfl
  have cBA0_1 : w4.cell? ⟨w.heap.size, 1, none⟩ = some (.int .i64 a0_1) := (blk_cell BA0.out 1).trans rfl
  have cBA0_2 : w4.cell? ⟨w.heap.size, 2, none⟩ = some (.slice A0_2 l0_2.length c0_2) := (blk_cell BA0.out 2).trans rfl
  have O4_0 := NO4_0
  clear NO4_0
  go_wp2_with fail
  clear cBA0_0 cBA0_1 cBA0_2
  refine (impl_ReadWord.calls ki a0_0 a0_1 _ _ (convs l0_2) a1 r0 r1 r2 _ (Kd.S_reads' (by (with_reducible repeat (first | apply Kd.S_alloc | apply Kd.S_drewN | apply Kd.S_drew)); exact O4_0.out)).2.2 (Kd.S_reads' O4_0.out).2.1 hki).mono ?_
  rintro e w5 ⟨v0, rfl, ho0, hb⟩
  obtain ⟨A105_0, c105_0, ev_⟩ := Kd.R_slice ho0
  subst ev_
  have NO5_0 := Aside0.mk (Kd.R_mono (ok' := fun q_ => w4.heap.size + 1 ≤ q_ ∧ q_ < w5.heap.size) (Kd.R_lower (Kd.R_bound ho0) (below_size (by repeat (first | (with_reducible first | exact HB.out | apply below_alloc | apply pw_below_drewN | apply below_drew1) | exact HB.out)))) (fun q_ h_ => ⟨by have h2_ := h_.2.1; (try simp at h2_); omega, h_.2.2.1⟩))
  clear ho0
  have HSZ := Aside0.mk (show w4.heap.size + 1 ≤ w5.heap.size by have h_ := hb.size; (try simp at h_); omega)
  have nB := Aside0.mk (below_step (by repeat (first | (with_reducible first | exact HB.out | apply below_alloc | apply pw_below_drewN | apply below_drew1) | exact HB.out)) hb)
  have nO3_0 := Aside0.mk (Kd.R_below (by (with_reducible repeat (first | apply Kd.R_alloc | apply Kd.R_drewN | apply Kd.R_drew)); exact O3_0.out) hb)
  have nO4_0 := Aside0.mk (Kd.S_below (by (with_reducible repeat (first | apply Kd.S_alloc | apply Kd.S_drewN | apply Kd.S_drew)); exact O4_0.out) hb)
  have nBA0 := Aside0.mk (blk_below (g := w.heap.size) (o := .cells #[.int .i64 a0_0, .int .i64 a0_1, .slice A0_2 l0_2.length c0_2] 24 (0, 0)) (by (with_reducible repeat (first | refine blk_drewN ?_ _ | refine blk_drew ?_ | refine blk_alloc ?_ _)); exact BA0.out) hb)
  have nBX0 := Aside0.mk (blk_below (o := .cells #[.int .i64 a0_0, .int .i64 a0_1, .slice A104_0 (convs l0_2).length c104_0] 29 (0, 0)) (heap_alloc_new w4 _) hb)
  clear HB O3_0 O4_0 BA0
  have HB := nB
  have O3_0 := nO3_0
  have O4_0 := nO4_0
  have BA0 := nBA0
  have BX0 := nBX0
  clear nB nO3_0 nO4_0 nBA0 nBX0
  have Z5 := HSZ
  clear HSZ
  have cBA0_0 : w5.cell? ⟨w.heap.size, 0, none⟩ = some (.int .i64 a0_0) := (blk_cell BA0.out 0).trans rfl
  have cBA0_1 : w5.cell? ⟨w.heap.size, 1, none⟩ = some (.int .i64 a0_1) := (blk_cell BA0.out 1).trans rfl
  have cBA0_2 : w5.cell? ⟨w.heap.size, 2, none⟩ = some (.slice A0_2 l0_2.length c0_2) := (blk_cell BA0.out 2).trans rfl
  have cBX0_0 : w5.cell? ⟨w4.heap.size, 0, none⟩ = some (.int .i64 a0_0) := (blk_cell BX0.out 0).trans rfl
  have cBX0_1 : w5.cell? ⟨w4.heap.size, 1, none⟩ = some (.int .i64 a0_1) := (blk_cell BX0.out 1).trans rfl
  have cBX0_2 : w5.cell? ⟨w4.heap.size, 2, none⟩ = some (.slice A104_0 (convs l0_2).length c104_0) := (blk_cell BX0.out 2).trans rfl
  have O5_0 := NO5_0
  clear NO5_0
  go_wp2_with fail
  clear cBA0_0 cBA0_1 cBA0_2 cBX0_0 cBX0_1 cBX0_2
  refine (laws_eqIntS.calls ke0 _ _ r0 _ _ r0 true _ (Kd.R_reads' (by (with_reducible repeat (first | apply Kd.R_alloc | apply Kd.R_drewN | apply Kd.R_drew)); exact O5_0.out)).2.2 (Kd.R_reads' O5_0.out).2.1 (Kd.R_reads' (by (with_reducible repeat (first | apply Kd.R_alloc | apply Kd.R_drewN | apply Kd.R_drew)); exact O3_0.out)).2.2 (Kd.R_reads' O3_0.out).2.1 hke0).mono ?_
  rintro e w6 ⟨rfl, hd⟩
  have hb := drawn_below hd
  clear hd
  have HSZ := Aside0.mk (show w5.heap.size + 0 ≤ w6.heap.size by have h_ := hb.size; (try simp at h_); omega)
  have nB := Aside0.mk (below_step (by repeat (first | (with_reducible first | exact HB.out | apply below_alloc | apply pw_below_drewN | apply below_drew1) | exact HB.out)) hb)
  have nO3_0 := Aside0.mk (Kd.R_below (by (with_reducible repeat (first | apply Kd.R_alloc | apply Kd.R_drewN | apply Kd.R_drew)); exact O3_0.out) hb)
  have nO4_0 := Aside0.mk (Kd.S_below (by (with_reducible repeat (first | apply Kd.S_alloc | apply Kd.S_drewN | apply Kd.S_drew)); exact O4_0.out) hb)
  have nO5_0 := Aside0.mk (Kd.R_below (by (with_reducible repeat (first | apply Kd.R_alloc | apply Kd.R_drewN | apply Kd.R_drew)); exact O5_0.out) hb)
  have nBA0 := Aside0.mk (blk_below (g := w.heap.size) (o := .cells #[.int .i64 a0_0, .int .i64 a0_1, .slice A0_2 l0_2.length c0_2] 24 (0, 0)) (by (with_reducible repeat (first | refine blk_drewN ?_ _ | refine blk_drew ?_ | refine blk_alloc ?_ _)); exact BA0.out) hb)
  have nBX0 := Aside0.mk (blk_below (g := w4.heap.size) (o := .cells #[.int .i64 a0_0, .int .i64 a0_1, .slice A104_0 (convs l0_2).length c104_0] 29 (0, 0)) (by (with_reducible repeat (first | refine blk_drewN ?_ _ | refine blk_drew ?_ | refine blk_alloc ?_ _)); exact BX0.out) hb)
  clear HB O3_0 O4_0 O5_0 BA0 BX0
  have HB := nB
  have O3_0 := nO3_0
  have O4_0 := nO4_0
  have O5_0 := nO5_0
  have BA0 := nBA0
  have BX0 := nBX0
  clear nB nO3_0 nO4_0 nO5_0 nBA0 nBX0
  have Z6 := HSZ
  clear HSZ
  have cBA0_0 : w6.cell? ⟨w.heap.size, 0, none⟩ = some (.int .i64 a0_0) := (blk_cell BA0.out 0).trans rfl
  have cBA0_1 : w6.cell? ⟨w.heap.size, 1, none⟩ = some (.int .i64 a0_1) := (blk_cell BA0.out 1).trans rfl
  have cBA0_2 : w6.cell? ⟨w.heap.size, 2, none⟩ = some (.slice A0_2 l0_2.length c0_2) := (blk_cell BA0.out 2).trans rfl
  have cBX0_0 : w6.cell? ⟨w4.heap.size, 0, none⟩ = some (.int .i64 a0_0) := (blk_cell BX0.out 0).trans rfl
  have cBX0_1 : w6.cell? ⟨w4.heap.size, 1, none⟩ = some (.int .i64 a0_1) := (blk_cell BX0.out 1).trans rfl
  have cBX0_2 : w6.cell? ⟨w4.heap.size, 2, none⟩ = some (.slice A104_0 (convs l0_2).length c104_0) := (blk_cell BX0.out 2).trans rfl
  go_wp2_with fail
  have nO3_0 := Aside0.mk (Kd.R_drew O3_0.out)
  have nO4_0 := Aside0.mk (Kd.S_drew O4_0.out)
  have nO5_0 := Aside0.mk (Kd.R_drew O5_0.out)
  have nBA0 := Aside0.mk (blk_drew BA0.out)
  have nBX0 := Aside0.mk (blk_drew BX0.out)
  have nB := Aside0.mk (below_drew1 HB.out)
  have HSZ := Aside0.mk (show w6.heap.size + 0 ≤ w6.drew.heap.size from Nat.le_refl _)
  clear cBA0_0 cBA0_1 cBA0_2 cBX0_0 cBX0_1 cBX0_2
  clear HB O3_0 O4_0 O5_0 BA0 BX0
  have HB := nB
  have O3_0 := nO3_0
  have O4_0 := nO4_0
  have O5_0 := nO5_0
  have BA0 := nBA0
  have BX0 := nBX0
  clear nB nO3_0 nO4_0 nO5_0 nBA0 nBX0
  refine start_ (n := 5) (S := fun w' => w'.cell? ⟨w4.heap.size, 0, none⟩ = some (.int .i64 a0_0) ∧ w'.cell? ⟨w4.heap.size, 1, none⟩ = some (.int .i64 a0_1) ∧ w'.cell? ⟨w4.heap.size, 2, none⟩ = some (.slice A104_0 (convs l0_2).length c104_0) ∧ w'.cell? ⟨w.heap.size, 0, none⟩ = some (.int .i64 a0_0) ∧ w'.cell? ⟨w.heap.size, 1, none⟩ = some (.int .i64 a0_1) ∧ w'.cell? ⟨w.heap.size, 2, none⟩ = some (.slice A0_2 l0_2.length c0_2)) (ds := []) #[false, false, false, false, false] (by kernel_rfl) rfl rfl ⟨(blk_cell BX0.out 0).trans rfl, (blk_cell BX0.out 1).trans rfl, (blk_cell BX0.out 2).trans rfl, (blk_cell BA0.out 0).trans rfl, (blk_cell BA0.out 1).trans rfl, (blk_cell BA0.out 2).trans rfl⟩ (fun hHeld => ?_)
  generalize w6.drew = w7 at O3_0 O4_0 O5_0 BA0 BX0 HB HSZ hHeld ⊢
  have Z7 := HSZ
  clear HSZ
  refine take_ (i := 0) (v := ?_) (a' := ?_) #[true, false, false, false, false] rfl rfl (by kernel_rfl) (fun _ _ _ h => h) (Or.inl ⟨by rfl, ?_⟩) hHeld ?_ ?_
  rotate_left
  · rintro w' ⟨s0, s1, s2, s3, s4, s5⟩
    go_simp
    with_reducible rfl
  rotate_left
  · simp only [Act.put, List.setIfInBounds_toArray, List.set_cons_zero, List.set_cons_succ, i64_w, i32_w]
    rfl
  refine take_ (i := 1) (v := ?_) (a' := ?_) #[true, true, false, false, false] rfl rfl (by kernel_rfl) (fun _ _ _ h => h) (Or.inl ⟨by rfl, ?_⟩) hHeld ?_ ?_
  rotate_left
  · rintro w' ⟨s0, s1, s2, s3, s4, s5⟩
    go_simp
    with_reducible rfl
  rotate_left
  · simp only [Act.put, List.setIfInBounds_toArray, List.set_cons_zero, List.set_cons_succ, i64_w, i32_w]
    rfl
  refine one_ (i := 2) #[true, true, true, false, false] rfl rfl (by kernel_rfl) (by decide) (fun K hK => ?_)
  refine goes_ Try.func16 (by kernel_rfl) rfl #[.agg #[.int .i64 a0_0, .int .i64 a0_1, .slice A0_2 l0_2.length c0_2]] (by rfl) rfl rfl (by first | rfl | ((try simp only [List.map_toArray, List.map_cons, List.map_nil]); first | done | rfl)) ?_
  with_reducible refine (laws_toGrammar.calls kt0 a0_0 a0_1 A0_2 c0_2 l0_2 a0_0 a0_1 (convs l0_2) _ (Kd.C_below hr0_2 (by repeat (first | (with_reducible first | exact HB.out | apply below_alloc | apply pw_below_drewN | apply below_drew1) | exact HB.out))) hc0_2 ht0).mono ?_
  rintro e w8 ⟨v0, rfl, ho0, hb⟩
  refine ⟨_, rfl, ?_⟩
  obtain ⟨A108_0, c108_0, ev_⟩ := Kd.S_slice ho0
  subst ev_
  have NO8_0 := Aside0.mk (Kd.S_mono (ok' := fun q_ => w7.heap.size + 0 ≤ q_ ∧ q_ < w8.heap.size) (Kd.S_lower (Kd.S_bound ho0) (below_size (by repeat (first | (with_reducible first | exact HB.out | apply below_alloc | apply pw_below_drewN | apply below_drew1) | exact HB.out)))) (fun q_ h_ => ⟨by have h2_ := h_.2.1; (try simp at h2_); omega, h_.2.2.1⟩))
  clear ho0
  have HSZ := Aside0.mk (show w7.heap.size + 0 ≤ w8.heap.size by have h_ := hb.size; (try simp at h_); omega)
  have nB := Aside0.mk (below_step (by repeat (first | (with_reducible first | exact HB.out | apply below_alloc | apply pw_below_drewN | apply below_drew1) | exact HB.out)) hb)
  have nO3_0 := Aside0.mk (Kd.R_below (by (with_reducible repeat (first | apply Kd.R_alloc | apply Kd.R_drewN | apply Kd.R_drew)); exact O3_0.out) hb)
  have nO4_0 := Aside0.mk (Kd.S_below (by (with_reducible repeat (first | apply Kd.S_alloc | apply Kd.S_drewN | apply Kd.S_drew)); exact O4_0.out) hb)
  have nO5_0 := Aside0.mk (Kd.R_below (by (with_reducible repeat (first | apply Kd.R_alloc | apply Kd.R_drewN | apply Kd.R_drew)); exact O5_0.out) hb)
  have nBA0 := Aside0.mk (blk_below (g := w.heap.size) (o := .cells #[.int .i64 a0_0, .int .i64 a0_1, .slice A0_2 l0_2.length c0_2] 24 (0, 0)) (by (with_reducible repeat (first | refine blk_drewN ?_ _ | refine blk_drew ?_ | refine blk_alloc ?_ _)); exact BA0.out) hb)
  have nBX0 := Aside0.mk (blk_below (g := w4.heap.size) (o := .cells #[.int .i64 a0_0, .int .i64 a0_1, .slice A104_0 (convs l0_2).length c104_0] 29 (0, 0)) (by (with_reducible repeat (first | refine blk_drewN ?_ _ | refine blk_drew ?_ | refine blk_alloc ?_ _)); exact BX0.out) hb)
  clear HB O3_0 O4_0 O5_0 BA0 BX0
  have HB := nB
  have O3_0 := nO3_0
  have O4_0 := nO4_0
  have O5_0 := nO5_0
  have BA0 := nBA0
  have BX0 := nBX0
  clear nB nO3_0 nO4_0 nO5_0 nBA0 nBX0
  have Z8 := HSZ
  clear HSZ
  have cBA0_0 : w8.cell? ⟨w.heap.size, 0, none⟩ = some (.int .i64 a0_0) := (blk_cell BA0.out 0).trans rfl
  have cBA0_1 : w8.cell? ⟨w.heap.size, 1, none⟩ = some (.int .i64 a0_1) := (blk_cell BA0.out 1).trans rfl
  have cBA0_2 : w8.cell? ⟨w.heap.size, 2, none⟩ = some (.slice A0_2 l0_2.length c0_2) := (blk_cell BA0.out 2).trans rfl
  have cBX0_0 : w8.cell? ⟨w4.heap.size, 0, none⟩ = some (.int .i64 a0_0) := (blk_cell BX0.out 0).trans rfl
  have cBX0_1 : w8.cell? ⟨w4.heap.size, 1, none⟩ = some (.int .i64 a0_1) := (blk_cell BX0.out 1).trans rfl
  have cBX0_2 : w8.cell? ⟨w4.heap.size, 2, none⟩ = some (.slice A104_0 (convs l0_2).length c104_0) := (blk_cell BX0.out 2).trans rfl
  have O8_0 := NO8_0
  clear NO8_0
  clear cBA0_0 cBA0_1 cBA0_2 cBX0_0 cBX0_1 cBX0_2
  refine hK.out _ _ ⟨(blk_cell BX0.out 0).trans rfl, (blk_cell BX0.out 1).trans rfl, (blk_cell BX0.out 2).trans rfl, (blk_cell BA0.out 0).trans rfl, (blk_cell BA0.out 1).trans rfl, (blk_cell BA0.out 2).trans rfl⟩ (fun hHeld => ?_)
  clear hK K
  refine norm_ (a' := ?_) ?_ ?_
  rotate_left
  · show Act.put _ (some _) _ = _
    simp only [Act.put, List.setIfInBounds_toArray, List.set_cons_zero, List.set_cons_succ, i64_w, i32_w]
    rfl
  refine one_ (i := 3) #[true, true, true, true, false] rfl rfl (by kernel_rfl) (by decide) (fun K hK => ?_)
  refine goes_ Try.func18 (by kernel_rfl) rfl #[.agg #[.int .i64 a0_0, .int .i64 a0_1, .slice A104_0 (convs l0_2).length c104_0], .agg #[.int .i64 a0_0, .int .i64 a0_1, .slice A108_0 (convs l0_2).length c108_0]] (by rfl) rfl rfl (by first | rfl | ((try simp only [List.map_toArray, List.map_cons, List.map_nil]); first | done | rfl)) ?_
  with_reducible refine (laws_eqGrammar.calls kx0 a0_0 a0_1 _ _ (convs l0_2) a0_0 a0_1 _ _ (convs l0_2) true _ (Kd.S_reads' (by (with_reducible repeat (first | apply Kd.S_alloc | apply Kd.S_drewN | apply Kd.S_drew)); exact O4_0.out)).2.2 (Kd.S_reads' O4_0.out).2.1 (Kd.S_reads' (by (with_reducible repeat (first | apply Kd.S_alloc | apply Kd.S_drewN | apply Kd.S_drew)); exact O8_0.out)).2.2 (Kd.S_reads' O8_0.out).2.1 hkx0).mono ?_
  rintro e w9 ⟨rfl, hb⟩
  refine ⟨_, rfl, ?_⟩
  clear O8_0
  have HSZ := Aside0.mk (show w8.heap.size + 0 ≤ w9.heap.size by have h_ := hb.size; (try simp at h_); omega)
  have nB := Aside0.mk (below_step (by repeat (first | (with_reducible first | exact HB.out | apply below_alloc | apply pw_below_drewN | apply below_drew1) | exact HB.out)) hb)
  have nO3_0 := Aside0.mk (Kd.R_below (by (with_reducible repeat (first | apply Kd.R_alloc | apply Kd.R_drewN | apply Kd.R_drew)); exact O3_0.out) hb)
  have nO4_0 := Aside0.mk (Kd.S_below (by (with_reducible repeat (first | apply Kd.S_alloc | apply Kd.S_drewN | apply Kd.S_drew)); exact O4_0.out) hb)
  have nO5_0 := Aside0.mk (Kd.R_below (by (with_reducible repeat (first | apply Kd.R_alloc | apply Kd.R_drewN | apply Kd.R_drew)); exact O5_0.out) hb)
  have nBA0 := Aside0.mk (blk_below (g := w.heap.size) (o := .cells #[.int .i64 a0_0, .int .i64 a0_1, .slice A0_2 l0_2.length c0_2] 24 (0, 0)) (by (with_reducible repeat (first | refine blk_drewN ?_ _ | refine blk_drew ?_ | refine blk_alloc ?_ _)); exact BA0.out) hb)
  have nBX0 := Aside0.mk (blk_below (g := w4.heap.size) (o := .cells #[.int .i64 a0_0, .int .i64 a0_1, .slice A104_0 (convs l0_2).length c104_0] 29 (0, 0)) (by (with_reducible repeat (first | refine blk_drewN ?_ _ | refine blk_drew ?_ | refine blk_alloc ?_ _)); exact BX0.out) hb)
  clear HB O3_0 O4_0 O5_0 BA0 BX0
  have HB := nB
  have O3_0 := nO3_0
  have O4_0 := nO4_0
  have O5_0 := nO5_0
  have BA0 := nBA0
  have BX0 := nBX0
  clear nB nO3_0 nO4_0 nO5_0 nBA0 nBX0
  have Z9 := HSZ
  clear HSZ
  have cBA0_0 : w9.cell? ⟨w.heap.size, 0, none⟩ = some (.int .i64 a0_0) := (blk_cell BA0.out 0).trans rfl
  have cBA0_1 : w9.cell? ⟨w.heap.size, 1, none⟩ = some (.int .i64 a0_1) := (blk_cell BA0.out 1).trans rfl
  have cBA0_2 : w9.cell? ⟨w.heap.size, 2, none⟩ = some (.slice A0_2 l0_2.length c0_2) := (blk_cell BA0.out 2).trans rfl
  have cBX0_0 : w9.cell? ⟨w4.heap.size, 0, none⟩ = some (.int .i64 a0_0) := (blk_cell BX0.out 0).trans rfl
  have cBX0_1 : w9.cell? ⟨w4.heap.size, 1, none⟩ = some (.int .i64 a0_1) := (blk_cell BX0.out 1).trans rfl
  have cBX0_2 : w9.cell? ⟨w4.heap.size, 2, none⟩ = some (.slice A104_0 (convs l0_2).length c104_0) := (blk_cell BX0.out 2).trans rfl
  clear cBA0_0 cBA0_1 cBA0_2 cBX0_0 cBX0_1 cBX0_2
  refine hK.out _ _ ⟨(blk_cell BX0.out 0).trans rfl, (blk_cell BX0.out 1).trans rfl, (blk_cell BX0.out 2).trans rfl, (blk_cell BA0.out 0).trans rfl, (blk_cell BA0.out 1).trans rfl, (blk_cell BA0.out 2).trans rfl⟩ (fun hHeld => ?_)
  clear hK K
  refine norm_ (a' := ?_) ?_ ?_
  rotate_left
  · show Act.put _ (some _) _ = _
    simp only [Act.put, List.setIfInBounds_toArray, List.set_cons_zero, List.set_cons_succ, i64_w, i32_w]
    rfl
  refine pure_ (i := 4) (v := ?_) (a' := ?_) #[true, true, true, true, true] rfl rfl (by kernel_rfl) (fun _ _ _ h => h) (Or.inl ⟨by rfl, ?_⟩) ?_ ?_
  rotate_left
  · intro w'
    go_simp
    with_reducible rfl
  rotate_left
  · simp only [Act.put, List.setIfInBounds_toArray, List.set_cons_zero, List.set_cons_succ, i64_w, i32_w]
    rfl
  refine done_ (by kernel_rfl) ?_
  clear hHeld
  have cBA0_0 : w9.cell? ⟨w.heap.size, 0, none⟩ = some (.int .i64 a0_0) := (blk_cell BA0.out 0).trans rfl
  have cBA0_1 : w9.cell? ⟨w.heap.size, 1, none⟩ = some (.int .i64 a0_1) := (blk_cell BA0.out 1).trans rfl
  have cBA0_2 : w9.cell? ⟨w.heap.size, 2, none⟩ = some (.slice A0_2 l0_2.length c0_2) := (blk_cell BA0.out 2).trans rfl
  have cBX0_0 : w9.cell? ⟨w4.heap.size, 0, none⟩ = some (.int .i64 a0_0) := (blk_cell BX0.out 0).trans rfl
  have cBX0_1 : w9.cell? ⟨w4.heap.size, 1, none⟩ = some (.int .i64 a0_1) := (blk_cell BX0.out 1).trans rfl
  have cBX0_2 : w9.cell? ⟨w4.heap.size, 2, none⟩ = some (.slice A104_0 (convs l0_2).length c104_0) := (blk_cell BX0.out 2).trans rfl
  obtain ⟨kk0, hkk0⟩ : ∃ z_ : Int, z_ = 1 + (szR (convs l0_2) : Int) := ⟨_, rfl⟩
  go_wp2_with fail
  clear cBA0_0 cBA0_1 cBA0_2 cBX0_0 cBX0_1 cBX0_2
  have CM := markGrammar_calls (fun q_ => w3.heap.size + 0 ≤ q_ ∧ q_ < w4.heap.size) a0_0 a0_1 _ (convs l0_2) (1) w _ (by repeat (first | (with_reducible first | exact HB.out | apply below_alloc | apply pw_below_drewN | apply below_drew1) | exact HB.out)) (by (with_reducible repeat (first | apply Kd.S_alloc | apply Kd.S_drewN | apply Kd.S_drew)); exact O4_0.out) (by omega) (by have := bx0; omega)
  rw [← hkk0] at CM
  refine CM.mono ?_
  rintro e w10 ⟨rfl, ho, hB_, hK_⟩
  have NB := Aside0.mk hB_
  have NK := Aside0.mk hK_
  have NO := Aside0.mk ho
  clear ho hB_ hK_ CM
  have HSZ := Aside0.mk (show w9.heap.size + 0 ≤ w10.heap.size by have h_ := NK.out.1; (try simp at h_); omega)
  have nB := NB
  have nO3_0 := Aside0.mk (Kd.R_kept (by (with_reducible repeat (first | apply Kd.R_alloc | apply Kd.R_drewN | apply Kd.R_drew)); exact O3_0.out) NK.out (fun q_ h1_ h2_ => by have := Z1.out; have := Z2.out; have := Z3.out; have := Z4.out; have := Z5.out; have := Z6.out; have := Z7.out; have := Z8.out; have := Z9.out; omega))
  have nO5_0 := Aside0.mk (Kd.R_kept (by (with_reducible repeat (first | apply Kd.R_alloc | apply Kd.R_drewN | apply Kd.R_drew)); exact O5_0.out) NK.out (fun q_ h1_ h2_ => by have := Z1.out; have := Z2.out; have := Z3.out; have := Z4.out; have := Z5.out; have := Z6.out; have := Z7.out; have := Z8.out; have := Z9.out; omega))
  have nBA0 := Aside0.mk (blk_kept (g := w.heap.size) (o := .cells #[.int .i64 a0_0, .int .i64 a0_1, .slice A0_2 l0_2.length c0_2] 24 (0, 0)) (by (with_reducible repeat (first | refine blk_drewN ?_ _ | refine blk_drew ?_ | refine blk_alloc ?_ _)); exact BA0.out) NK.out (fun h2_ => by have := Z1.out; have := Z2.out; have := Z3.out; have := Z4.out; have := Z5.out; have := Z6.out; have := Z7.out; have := Z8.out; have := Z9.out; omega))
  have nBX0 := Aside0.mk (blk_kept (g := w4.heap.size) (o := .cells #[.int .i64 a0_0, .int .i64 a0_1, .slice A104_0 (convs l0_2).length c104_0] 29 (0, 0)) (by (with_reducible repeat (first | refine blk_drewN ?_ _ | refine blk_drew ?_ | refine blk_alloc ?_ _)); exact BX0.out) NK.out (fun h2_ => by have := Z1.out; have := Z2.out; have := Z3.out; have := Z4.out; have := Z5.out; have := Z6.out; have := Z7.out; have := Z8.out; have := Z9.out; omega))
  clear HB O3_0 O5_0 BA0 BX0
  have HB := nB
  have O3_0 := nO3_0
  have O5_0 := nO5_0
  have BA0 := nBA0
  have BX0 := nBX0
  clear nB nO3_0 nO5_0 nBA0 nBX0
  have Z10 := HSZ
  clear HSZ
  have cBA0_0 : w10.cell? ⟨w.heap.size, 0, none⟩ = some (.int .i64 a0_0) := (blk_cell BA0.out 0).trans rfl
  have cBA0_1 : w10.cell? ⟨w.heap.size, 1, none⟩ = some (.int .i64 a0_1) := (blk_cell BA0.out 1).trans rfl
  have cBA0_2 : w10.cell? ⟨w.heap.size, 2, none⟩ = some (.slice A0_2 l0_2.length c0_2) := (blk_cell BA0.out 2).trans rfl
  have cBX0_0 : w10.cell? ⟨w4.heap.size, 0, none⟩ = some (.int .i64 a0_0) := (blk_cell BX0.out 0).trans rfl
  have cBX0_1 : w10.cell? ⟨w4.heap.size, 1, none⟩ = some (.int .i64 a0_1) := (blk_cell BX0.out 1).trans rfl
  have cBX0_2 : w10.cell? ⟨w4.heap.size, 2, none⟩ = some (.slice A104_0 (convs l0_2).length c104_0) := (blk_cell BX0.out 2).trans rfl
  clear O4_0
  have O4_0 := NO
  clear NO NK NB
  have dkk0 : decide (kk0 < 0) = false := decide_eq_false (by omega)
  have gkk0 : 0 ≤ kk0 := by omega
  have qkk0 : kk0 ≤ 1152921504606846976 := by have := bx0; omega
  have Skk0 := Aside0.mk hkk0
  clear hkk0
  clear O4_0
  go_wp2_with fail
  clear cBA0_0 cBA0_1 cBA0_2
  refine (laws_eqIntS.calls ke0 _ _ r0 _ _ r0 true _ (Kd.R_reads' (by (with_reducible repeat (first | apply Kd.R_alloc | apply Kd.R_drewN | apply Kd.R_drew)); exact O5_0.out)).2.2 (Kd.R_reads' O5_0.out).2.1 (Kd.R_reads' (by (with_reducible repeat (first | apply Kd.R_alloc | apply Kd.R_drewN | apply Kd.R_drew)); exact O3_0.out)).2.2 (Kd.R_reads' O3_0.out).2.1 hke0).mono ?_
  rintro e w11 ⟨rfl, hd⟩
  have hb := drawn_below hd
  clear hd
  have HSZ := Aside0.mk (show w10.heap.size + 0 ≤ w11.heap.size by have h_ := hb.size; (try simp at h_); omega)
  have nB := Aside0.mk (below_step (by repeat (first | (with_reducible first | exact HB.out | apply below_alloc | apply pw_below_drewN | apply below_drew1) | exact HB.out)) hb)
  have nO3_0 := Aside0.mk (Kd.R_below (by (with_reducible repeat (first | apply Kd.R_alloc | apply Kd.R_drewN | apply Kd.R_drew)); exact O3_0.out) hb)
  have nO5_0 := Aside0.mk (Kd.R_below (by (with_reducible repeat (first | apply Kd.R_alloc | apply Kd.R_drewN | apply Kd.R_drew)); exact O5_0.out) hb)
  have nBA0 := Aside0.mk (blk_below (g := w.heap.size) (o := .cells #[.int .i64 a0_0, .int .i64 a0_1, .slice A0_2 l0_2.length c0_2] 24 (0, 0)) (by (with_reducible repeat (first | refine blk_drewN ?_ _ | refine blk_drew ?_ | refine blk_alloc ?_ _)); exact BA0.out) hb)
  clear HB O3_0 O5_0 BA0
  have HB := nB
  have O3_0 := nO3_0
  have O5_0 := nO5_0
  have BA0 := nBA0
  clear nB nO3_0 nO5_0 nBA0
  have Z11 := HSZ
  clear HSZ
  have cBA0_0 : w11.cell? ⟨w.heap.size, 0, none⟩ = some (.int .i64 a0_0) := (blk_cell BA0.out 0).trans rfl
  have cBA0_1 : w11.cell? ⟨w.heap.size, 1, none⟩ = some (.int .i64 a0_1) := (blk_cell BA0.out 1).trans rfl
  have cBA0_2 : w11.cell? ⟨w.heap.size, 2, none⟩ = some (.slice A0_2 l0_2.length c0_2) := (blk_cell BA0.out 2).trans rfl
  obtain ⟨mm0, hmm0⟩ : ∃ z_ : Int, z_ = 1 + (r0.length : Int) := ⟨_, rfl⟩
  go_wp2_with fail
  clear cBA0_0 cBA0_1 cBA0_2
  have CM := markIntS_calls (fun q_ => w4.heap.size + 1 ≤ q_ ∧ q_ < w5.heap.size) _ r0 (1) w _ (by repeat (first | (with_reducible first | exact HB.out | apply below_alloc | apply pw_below_drewN | apply below_drew1) | exact HB.out)) (by (with_reducible repeat (first | apply Kd.R_alloc | apply Kd.R_drewN | apply Kd.R_drew)); exact O5_0.out) (by omega) (by have := br0; omega)
  rw [← hmm0] at CM
  refine CM.mono ?_
  rintro e w12 ⟨rfl, ho, hB_, hK_⟩
  have NB := Aside0.mk hB_
  have NK := Aside0.mk hK_
  have NO := Aside0.mk ho
  clear ho hB_ hK_ CM
  have HSZ := Aside0.mk (show w11.heap.size + 0 ≤ w12.heap.size by have h_ := NK.out.1; (try simp at h_); omega)
  have nB := NB
  have nO3_0 := Aside0.mk (Kd.R_kept (by (with_reducible repeat (first | apply Kd.R_alloc | apply Kd.R_drewN | apply Kd.R_drew)); exact O3_0.out) NK.out (fun q_ h1_ h2_ => by have := Z1.out; have := Z2.out; have := Z3.out; have := Z4.out; have := Z5.out; have := Z6.out; have := Z7.out; have := Z8.out; have := Z9.out; have := Z10.out; have := Z11.out; omega))
  have nBA0 := Aside0.mk (blk_kept (g := w.heap.size) (o := .cells #[.int .i64 a0_0, .int .i64 a0_1, .slice A0_2 l0_2.length c0_2] 24 (0, 0)) (by (with_reducible repeat (first | refine blk_drewN ?_ _ | refine blk_drew ?_ | refine blk_alloc ?_ _)); exact BA0.out) NK.out (fun h2_ => by have := Z1.out; have := Z2.out; have := Z3.out; have := Z4.out; have := Z5.out; have := Z6.out; have := Z7.out; have := Z8.out; have := Z9.out; have := Z10.out; have := Z11.out; omega))
  clear HB O3_0 BA0
  have HB := nB
  have O3_0 := nO3_0
  have BA0 := nBA0
  clear nB nO3_0 nBA0
  have Z12 := HSZ
  clear HSZ
  have cBA0_0 : w12.cell? ⟨w.heap.size, 0, none⟩ = some (.int .i64 a0_0) := (blk_cell BA0.out 0).trans rfl
  have cBA0_1 : w12.cell? ⟨w.heap.size, 1, none⟩ = some (.int .i64 a0_1) := (blk_cell BA0.out 1).trans rfl
  have cBA0_2 : w12.cell? ⟨w.heap.size, 2, none⟩ = some (.slice A0_2 l0_2.length c0_2) := (blk_cell BA0.out 2).trans rfl
  clear O5_0
  have O5_0 := NO
  clear NO NK NB
  have dmm0 : decide (mm0 < 0) = false := decide_eq_false (by omega)
  have gmm0 : 0 ≤ mm0 := by omega
  have qmm0 : mm0 ≤ 1152921504606846976 := by have := br0; omega
  have Smm0 := Aside0.mk hmm0
  clear hmm0
  go_wp2_with fail
  clear cBA0_0 cBA0_1 cBA0_2
  have CH := fun A_ c_ w_ hr_ hc_ => heldIntS_calls  A_ c_ r0 (1) w_ hr_ hc_ (by omega) (by have := br0; omega)
  rw [← Smm0.out] at CH
  refine (CH _ _ _ (Kd.R_reads' (by (with_reducible repeat (first | apply Kd.R_alloc | apply Kd.R_drewN | apply Kd.R_drew)); exact O5_0.out)).2.2 (Kd.R_reads' O5_0.out).2.1).mono ?_
  rintro e w13 ⟨rfl, hb⟩
  clear CH
  have HSZ := Aside0.mk (show w12.heap.size + 0 ≤ w13.heap.size by have h_ := hb.size; (try simp at h_); omega)
  have nB := Aside0.mk (below_step (by repeat (first | (with_reducible first | exact HB.out | apply below_alloc | apply pw_below_drewN | apply below_drew1) | exact HB.out)) hb)
  have nO3_0 := Aside0.mk (Kd.R_below (by (with_reducible repeat (first | apply Kd.R_alloc | apply Kd.R_drewN | apply Kd.R_drew)); exact O3_0.out) hb)
  have nO5_0 := Aside0.mk (Kd.R_below (by (with_reducible repeat (first | apply Kd.R_alloc | apply Kd.R_drewN | apply Kd.R_drew)); exact O5_0.out) hb)
  have nBA0 := Aside0.mk (blk_below (g := w.heap.size) (o := .cells #[.int .i64 a0_0, .int .i64 a0_1, .slice A0_2 l0_2.length c0_2] 24 (0, 0)) (by (with_reducible repeat (first | refine blk_drewN ?_ _ | refine blk_drew ?_ | refine blk_alloc ?_ _)); exact BA0.out) hb)
  clear HB O3_0 O5_0 BA0
  have HB := nB
  have O3_0 := nO3_0
  have O5_0 := nO5_0
  have BA0 := nBA0
  clear nB nO3_0 nO5_0 nBA0
  have Z13 := HSZ
  clear HSZ
  have cBA0_0 : w13.cell? ⟨w.heap.size, 0, none⟩ = some (.int .i64 a0_0) := (blk_cell BA0.out 0).trans rfl
  have cBA0_1 : w13.cell? ⟨w.heap.size, 1, none⟩ = some (.int .i64 a0_1) := (blk_cell BA0.out 1).trans rfl
  have cBA0_2 : w13.cell? ⟨w.heap.size, 2, none⟩ = some (.slice A0_2 l0_2.length c0_2) := (blk_cell BA0.out 2).trans rfl
  go_wp2_with fail
  clear cBA0_0 cBA0_1 cBA0_2
  refine (laws_toGrammar.calls kt0 a0_0 a0_1 A0_2 c0_2 l0_2 a0_0 a0_1 (convs l0_2) _ (Kd.C_below hr0_2 (by repeat (first | (with_reducible first | exact HB.out | apply below_alloc | apply pw_below_drewN | apply below_drew1) | exact HB.out))) hc0_2 ht0).mono ?_
  rintro e w14 ⟨v0, rfl, ho0, hb⟩
  obtain ⟨A114_0, c114_0, ev_⟩ := Kd.S_slice ho0
  subst ev_
  have NO14_0 := Aside0.mk (Kd.S_mono (ok' := fun q_ => w13.heap.size + 0 ≤ q_ ∧ q_ < w14.heap.size) (Kd.S_lower (Kd.S_bound ho0) (below_size (by repeat (first | (with_reducible first | exact HB.out | apply below_alloc | apply pw_below_drewN | apply below_drew1) | exact HB.out)))) (fun q_ h_ => ⟨by have h2_ := h_.2.1; (try simp at h2_); omega, h_.2.2.1⟩))
  clear ho0
  have HSZ := Aside0.mk (show w13.heap.size + 0 ≤ w14.heap.size by have h_ := hb.size; (try simp at h_); omega)
  have nB := Aside0.mk (below_step (by repeat (first | (with_reducible first | exact HB.out | apply below_alloc | apply pw_below_drewN | apply below_drew1) | exact HB.out)) hb)
  have nO3_0 := Aside0.mk (Kd.R_below (by (with_reducible repeat (first | apply Kd.R_alloc | apply Kd.R_drewN | apply Kd.R_drew)); exact O3_0.out) hb)
  have nO5_0 := Aside0.mk (Kd.R_below (by (with_reducible repeat (first | apply Kd.R_alloc | apply Kd.R_drewN | apply Kd.R_drew)); exact O5_0.out) hb)
  have nBA0 := Aside0.mk (blk_below (g := w.heap.size) (o := .cells #[.int .i64 a0_0, .int .i64 a0_1, .slice A0_2 l0_2.length c0_2] 24 (0, 0)) (by (with_reducible repeat (first | refine blk_drewN ?_ _ | refine blk_drew ?_ | refine blk_alloc ?_ _)); exact BA0.out) hb)
  clear HB O3_0 O5_0 BA0
  have HB := nB
  have O3_0 := nO3_0
  have O5_0 := nO5_0
  have BA0 := nBA0
  clear nB nO3_0 nO5_0 nBA0
  have Z14 := HSZ
  clear HSZ
  have cBA0_0 : w14.cell? ⟨w.heap.size, 0, none⟩ = some (.int .i64 a0_0) := (blk_cell BA0.out 0).trans rfl
  have cBA0_1 : w14.cell? ⟨w.heap.size, 1, none⟩ = some (.int .i64 a0_1) := (blk_cell BA0.out 1).trans rfl
  have cBA0_2 : w14.cell? ⟨w.heap.size, 2, none⟩ = some (.slice A0_2 l0_2.length c0_2) := (blk_cell BA0.out 2).trans rfl
  have O14_0 := NO14_0
  clear NO14_0
  go_wp2_with fail
  clear cBA0_0 cBA0_1 cBA0_2
  refine (impl_ReadWord.calls ki a0_0 a0_1 _ _ (convs l0_2) a1 r0 r1 r2 _ (Kd.S_reads' (by (with_reducible repeat (first | apply Kd.S_alloc | apply Kd.S_drewN | apply Kd.S_drew)); exact O14_0.out)).2.2 (Kd.S_reads' O14_0.out).2.1 hki).mono ?_
  rintro e w15 ⟨v0, rfl, ho0, hb⟩
  obtain ⟨A115_0, c115_0, ev_⟩ := Kd.R_slice ho0
  subst ev_
  have NO15_0 := Aside0.mk (Kd.R_mono (ok' := fun q_ => w14.heap.size + 0 ≤ q_ ∧ q_ < w15.heap.size) (Kd.R_lower (Kd.R_bound ho0) (below_size (by repeat (first | (with_reducible first | exact HB.out | apply below_alloc | apply pw_below_drewN | apply below_drew1) | exact HB.out)))) (fun q_ h_ => ⟨by have h2_ := h_.2.1; (try simp at h2_); omega, h_.2.2.1⟩))
  clear ho0
  have HSZ := Aside0.mk (show w14.heap.size + 0 ≤ w15.heap.size by have h_ := hb.size; (try simp at h_); omega)
  have nB := Aside0.mk (below_step (by repeat (first | (with_reducible first | exact HB.out | apply below_alloc | apply pw_below_drewN | apply below_drew1) | exact HB.out)) hb)
  have nO3_0 := Aside0.mk (Kd.R_below (by (with_reducible repeat (first | apply Kd.R_alloc | apply Kd.R_drewN | apply Kd.R_drew)); exact O3_0.out) hb)
  have nO5_0 := Aside0.mk (Kd.R_below (by (with_reducible repeat (first | apply Kd.R_alloc | apply Kd.R_drewN | apply Kd.R_drew)); exact O5_0.out) hb)
  have nO14_0 := Aside0.mk (Kd.S_below (by (with_reducible repeat (first | apply Kd.S_alloc | apply Kd.S_drewN | apply Kd.S_drew)); exact O14_0.out) hb)
  have nBA0 := Aside0.mk (blk_below (g := w.heap.size) (o := .cells #[.int .i64 a0_0, .int .i64 a0_1, .slice A0_2 l0_2.length c0_2] 24 (0, 0)) (by (with_reducible repeat (first | refine blk_drewN ?_ _ | refine blk_drew ?_ | refine blk_alloc ?_ _)); exact BA0.out) hb)
  clear HB O3_0 O5_0 O14_0 BA0
  have HB := nB
  have O3_0 := nO3_0
  have O5_0 := nO5_0
  have O14_0 := nO14_0
  have BA0 := nBA0
  clear nB nO3_0 nO5_0 nO14_0 nBA0
  have Z15 := HSZ
  clear HSZ
  have cBA0_0 : w15.cell? ⟨w.heap.size, 0, none⟩ = some (.int .i64 a0_0) := (blk_cell BA0.out 0).trans rfl
  have cBA0_1 : w15.cell? ⟨w.heap.size, 1, none⟩ = some (.int .i64 a0_1) := (blk_cell BA0.out 1).trans rfl
  have cBA0_2 : w15.cell? ⟨w.heap.size, 2, none⟩ = some (.slice A0_2 l0_2.length c0_2) := (blk_cell BA0.out 2).trans rfl
  have O15_0 := NO15_0
  clear NO15_0
  clear O14_0
  go_wp2_with fail
  clear cBA0_0 cBA0_1 cBA0_2
  refine (laws_eqIntS.calls ke0 _ _ r0 _ _ r0 true _ (Kd.R_reads' (by (with_reducible repeat (first | apply Kd.R_alloc | apply Kd.R_drewN | apply Kd.R_drew)); exact O15_0.out)).2.2 (Kd.R_reads' O15_0.out).2.1 (Kd.R_reads' (by (with_reducible repeat (first | apply Kd.R_alloc | apply Kd.R_drewN | apply Kd.R_drew)); exact O3_0.out)).2.2 (Kd.R_reads' O3_0.out).2.1 hke0).mono ?_
  rintro e w16 ⟨rfl, hd⟩
  have hb := drawn_below hd
  clear hd
  have HSZ := Aside0.mk (show w15.heap.size + 0 ≤ w16.heap.size by have h_ := hb.size; (try simp at h_); omega)
  have nB := Aside0.mk (below_step (by repeat (first | (with_reducible first | exact HB.out | apply below_alloc | apply pw_below_drewN | apply below_drew1) | exact HB.out)) hb)
  have nO3_0 := Aside0.mk (Kd.R_below (by (with_reducible repeat (first | apply Kd.R_alloc | apply Kd.R_drewN | apply Kd.R_drew)); exact O3_0.out) hb)
  have nO5_0 := Aside0.mk (Kd.R_below (by (with_reducible repeat (first | apply Kd.R_alloc | apply Kd.R_drewN | apply Kd.R_drew)); exact O5_0.out) hb)
  have nO15_0 := Aside0.mk (Kd.R_below (by (with_reducible repeat (first | apply Kd.R_alloc | apply Kd.R_drewN | apply Kd.R_drew)); exact O15_0.out) hb)
  have nBA0 := Aside0.mk (blk_below (g := w.heap.size) (o := .cells #[.int .i64 a0_0, .int .i64 a0_1, .slice A0_2 l0_2.length c0_2] 24 (0, 0)) (by (with_reducible repeat (first | refine blk_drewN ?_ _ | refine blk_drew ?_ | refine blk_alloc ?_ _)); exact BA0.out) hb)
  clear HB O3_0 O5_0 O15_0 BA0
  have HB := nB
  have O3_0 := nO3_0
  have O5_0 := nO5_0
  have O15_0 := nO15_0
  have BA0 := nBA0
  clear nB nO3_0 nO5_0 nO15_0 nBA0
  have Z16 := HSZ
  clear HSZ
  have cBA0_0 : w16.cell? ⟨w.heap.size, 0, none⟩ = some (.int .i64 a0_0) := (blk_cell BA0.out 0).trans rfl
  have cBA0_1 : w16.cell? ⟨w.heap.size, 1, none⟩ = some (.int .i64 a0_1) := (blk_cell BA0.out 1).trans rfl
  have cBA0_2 : w16.cell? ⟨w.heap.size, 2, none⟩ = some (.slice A0_2 l0_2.length c0_2) := (blk_cell BA0.out 2).trans rfl
  go_wp2_with fail
  clear cBA0_0 cBA0_1 cBA0_2
  have CH := fun A_ c_ w_ hr_ hc_ => heldIntS_calls  A_ c_ r0 (1) w_ hr_ hc_ (by omega) (by have := br0; omega)
  rw [← Smm0.out] at CH
  refine (CH _ _ _ (Kd.R_reads' (by (with_reducible repeat (first | apply Kd.R_alloc | apply Kd.R_drewN | apply Kd.R_drew)); exact O5_0.out)).2.2 (Kd.R_reads' O5_0.out).2.1).mono ?_
  rintro e w17 ⟨rfl, hb⟩
  clear CH
  have HSZ := Aside0.mk (show w16.heap.size + 0 ≤ w17.heap.size by have h_ := hb.size; (try simp at h_); omega)
  have nB := Aside0.mk (below_step (by repeat (first | (with_reducible first | exact HB.out | apply below_alloc | apply pw_below_drewN | apply below_drew1) | exact HB.out)) hb)
  have nO3_0 := Aside0.mk (Kd.R_below (by (with_reducible repeat (first | apply Kd.R_alloc | apply Kd.R_drewN | apply Kd.R_drew)); exact O3_0.out) hb)
  have nO5_0 := Aside0.mk (Kd.R_below (by (with_reducible repeat (first | apply Kd.R_alloc | apply Kd.R_drewN | apply Kd.R_drew)); exact O5_0.out) hb)
  have nO15_0 := Aside0.mk (Kd.R_below (by (with_reducible repeat (first | apply Kd.R_alloc | apply Kd.R_drewN | apply Kd.R_drew)); exact O15_0.out) hb)
  have nBA0 := Aside0.mk (blk_below (g := w.heap.size) (o := .cells #[.int .i64 a0_0, .int .i64 a0_1, .slice A0_2 l0_2.length c0_2] 24 (0, 0)) (by (with_reducible repeat (first | refine blk_drewN ?_ _ | refine blk_drew ?_ | refine blk_alloc ?_ _)); exact BA0.out) hb)
  clear HB O3_0 O5_0 O15_0 BA0
  have HB := nB
  have O3_0 := nO3_0
  have O5_0 := nO5_0
  have O15_0 := nO15_0
  have BA0 := nBA0
  clear nB nO3_0 nO5_0 nO15_0 nBA0
  have Z17 := HSZ
  clear HSZ
  have cBA0_0 : w17.cell? ⟨w.heap.size, 0, none⟩ = some (.int .i64 a0_0) := (blk_cell BA0.out 0).trans rfl
  have cBA0_1 : w17.cell? ⟨w.heap.size, 1, none⟩ = some (.int .i64 a0_1) := (blk_cell BA0.out 1).trans rfl
  have cBA0_2 : w17.cell? ⟨w.heap.size, 2, none⟩ = some (.slice A0_2 l0_2.length c0_2) := (blk_cell BA0.out 2).trans rfl
  go_wp2
  go_ret
  exact ⟨rfl, by repeat (first | (with_reducible first | exact HB.out | apply below_alloc | apply pw_below_drewN | apply below_drew1) | exact HB.out)⟩
end Go.Proofs.Ytbcfoljdejmigaa.P

/-! LawFnExactReadWord -/
/- Proved: for all arguments ReadWord of the program returns what ReadWord of the reference returns; it leaves its arguments as they were, and shares no memory. No condition. -/
namespace Go.Proofs.Ytbcfoljdejmigaa.fnExactReadWord
open Go.ChangeShapes Go.WideShapes Go.ChangeAt Go.RowKit
open Go.ChangeMaps (open_string shut_string)
set_option linter.unusedVariables false
theorem own : ownKnob Try.prog.godebug = none := by kernel_rfl
theorem laidOut : laidOutB Try.prog = true := by kernel_rfl
set_option maxRecDepth 100000 in
theorem lifted (os : Os) (started : os.Started) (H : Type) (enc : TypeId × Value → H) :
    ReturnsInHanded {} Try.checked os 8 .any (Rows.fnExactReadWordSpec.pre6 enc Try.prog Try.f8 Rows.fnExactReadWordRow.domain false) (Rows.fnExactReadWordSpec.post enc Try.prog Try.f8 false true false false) := by
  refine returnsInHanded_of_change_sized (C := Try.checked) own started (by kernel_rfl) Try.func8
    (ChangeSpec.witness6 (enc := enc) (C := Try.checked) false ⟨#[], #[.agg #[.int .i64 0, .int .i64 0, .slice none 0 0], .string ByteArray.empty], []⟩ 8 (by kernel_rfl) (by kernel_rfl) (by kernel_rfl) (by kernel_rfl)) ?_
  intro W base args ds gs before hval0 hW hcnd hsz0 _
  have hval : ∀ (j : Nat) t v, Try.f8.params[j]? = some t → args[j]? = some v → Value.okWide Try.prog W .any base t v := hval0
  have hW' := hW
  obtain ⟨p, q, hA0, hV, rfl, hfz, hnd⟩ := hW
  have hA : DataW.TrodAll enc Try.prog W 0 (fun _ => true) true Try.f8.params.toList args.toList ds p := hA0
  rw [Try.params8] at hA hval
  obtain ⟨v0, vs0, d0, ds0, p0, q0, hargs, rfl, rfl, h0, r0⟩ := trodAll_cons hA
  obtain ⟨v1, vs1, d1, ds1, p1, q1, rfl, rfl, rfl, h1, r1⟩ := trodAll_cons r0
  obtain ⟨rfl, rfl, rfl⟩ := trodAll_nil r1
  obtain rfl : args = #[v0, v1] := by cases args; simp_all
  obtain ⟨rfl, rfl⟩ := trodVars_none hV
  have lt0 : ∀ x ∈ p0, x.block < W.heap.size := by obtain ⟨m, hm⟩ := h0; exact DataW.trod_lt m _ _ _ hm
  have k0 := h0
  obtain ⟨a0_0, a0_1, A0_2, c0_2, l0_2, rfl, hc0_2, hr0_2⟩ := Open.open_grammar (hval 0 24 v0 rfl rfl) h0
  obtain ⟨a1, rfl, rfl, rfl, y1⟩ := open_string Try.underlying9 (hval 1 9 v1 rfl rfl) h1
  clear hA0 hval0 hsz0
  refine (P.holds_FnExactReadWord W a0_0 a0_1 A0_2 c0_2 l0_2 hr0_2 hc0_2 a1 y1).mono fun e W' ⟨he, bel⟩ => ?_
  subst he
  exact ⟨_, rfl, _, _, _, [], _, [], hW', trodAll_mk1 (shut_bool Try.underlying4 _), (trodAll_cons_mk (Below.trod laidOut (by kernel_rfl) (of_decide_eq_true (by kernel_rfl)) k0 bel lt0) (trodAll_cons_mk (shut_string Try.underlying9 y1) trodAll_mk0)), rfl, bel.frame _, fun h => by cases h⟩
theorem over : Rows.fnExactReadWordRow.holds Try.pinned (OpenSpec.ofChange Rows.fnExactReadWordSpec) :=
  OpenClaim.holds_of_wide 8 Try.f8 rfl rfl rfl rfl rfl rfl rfl ⟨rfl, rfl, rfl, rfl, rfl⟩ rfl rfl rfl rfl rfl (by kernel_rfl) Try.func8 (by kernel_rfl)
    (of_decide_eq_true (by kernel_rfl)) (by unfold Func.isWrapper; first | (rw [if_pos (by decide +kernel)]; kernel_rfl) | (rw [if_neg (by decide +kernel)]; exact ⟨rfl, rfl⟩))
    (fun os started H enc _ => lifted os started H enc)
theorem proved : Rows.FnExactReadWordSaid := over
#print axioms proved
end Go.Proofs.Ytbcfoljdejmigaa.fnExactReadWord
namespace Go.Proofs.Ytbcfoljdejmigaa
/-- The row, under a short name, for the claim. -/
theorem fnExactReadWord_holds : Rows.FnExactReadWordSaid := fnExactReadWord.proved
end Go.Proofs.Ytbcfoljdejmigaa

