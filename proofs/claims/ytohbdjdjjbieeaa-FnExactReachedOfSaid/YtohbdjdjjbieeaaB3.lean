/- Shared texts of this seat's claims, one behind the other. -/
import Derived.Test.YtohbdjdjjbieeaaK0
import Derived.Test.YtohbdjdjjbieeaaB1
/-! F20 -/
namespace Go.Proofs.Ytohbdjdjjbieeaa.P
open Go.RowKit Go.Proofs.YtohbdjdjjbieeaaW.PrintWords Go.Proofs.YtohbdjdjjbieeaaW.PrintLast Go.Proofs.YtohbdjdjjbieeaaW.PrintMore
attribute [local go_sem] max2_int min2_int max_two min_two max_three min_three max_four min_four   -- for this text's walks alone
set_option linter.unusedVariables false
set_option linter.unusedSimpArgs false

/-! ### laws_markIntS: function 20 -/
def laws_markIntS.l0 : Nat → List Int → Int → Int → Option (Int × List Int)
  | 0, _, _, _ => none
  | k + 1, x0, x1, x5 => if x5 < (x0.length : Int) then (if 0 ≤ x5 then (laws_markIntS.l0 k (x0.set (x5 : Int).toNat x1) (wrap64 (x1 + 1)) (wrap64 (x5 + 1))) else (none)) else (some (x1, x0))
def laws_markIntS.f (k : Nat) (l0 : List Int) (a1 : Int) : Option (Int × List Int) := laws_markIntS.l0 k l0 a1 0
theorem laws_markIntS.mono_l : ∀ k, (∀ y0 y1 y2, LeO (laws_markIntS.l0 k y0 y1 y2) (laws_markIntS.l0 (k + 1) y0 y1 y2))
  | 0 => fun _ _ _ r h => by simp [laws_markIntS.l0] at h
  | k + 1 => by
    have ih0 := laws_markIntS.mono_l k
    · intro y0 y1 y2
      unfold laws_markIntS.l0
      repeat' first
      | (with_reducible exact ih0 _ _ _)
      | (with_reducible exact LeO.refl _)
      | (with_reducible exact LeO.none _)
      | (with_reducible refine LeO.ite ?_ ?_)
      | (with_reducible refine LeO.bind ?_ (fun _ => ?_))
      | exact ih0 _ _ _
      | exact LeO.none _
      | refine LeO.ite ?_ ?_
      | refine LeO.bind ?_ (fun _ => ?_)
theorem laws_markIntS.mono : ∀ a0 a1 k, LeO (laws_markIntS.f k a0 a1) (laws_markIntS.f (k + 1) a0 a1) := by
  intro a0 a1 k
  have ih0 := laws_markIntS.mono_l k
  unfold laws_markIntS.f
  repeat' first
      | (with_reducible exact ih0 _ _ _)
      | (with_reducible exact LeO.refl _)
      | (with_reducible exact LeO.none _)
      | (with_reducible refine LeO.ite ?_ ?_)
      | (with_reducible refine LeO.bind ?_ (fun _ => ?_))
      | exact ih0 _ _ _
      | exact LeO.none _
      | refine LeO.ite ?_ ?_
      | refine LeO.bind ?_ (fun _ => ?_)
set_option maxHeartbeats 8000000 in
set_option maxRecDepth 100000 in
theorem laws_markIntS.calls (k : Nat) (P0_ : Nat → Prop) (u9000_ : Value) (l0 : List Int) (a1 : Int) (r1 : Int) (r2 : List Int) (w0 w : World) (hB : Below w0.heap.size w0 w) (ho0 : Kd.R (Kd.int .i64) 3 w w0.heap.size P0_ u9000_ l0) (h : laws_markIntS.f k l0 a1 = some (r1, r2)) :
    Calls Try.prog 20 #[u9000_, .int .i64 a1] w fun e w' => e = .returned (.int .i64 r1) ∧ Kd.R (Kd.int .i64) 3 w' w0.heap.size (fun k_ => (P0_ k_ ∨ w.heap.size ≤ k_)) u9000_ r2 ∧ Below w0.heap.size w0 w' ∧ Kept w w' (fun k_ => P0_ k_) := by
  have HO0 := Aside0.mk (show Kd.R (Kd.int .i64) 3 w w0.heap.size (fun k_ => (P0_ k_ ∨ w.heap.size ≤ k_)) u9000_ l0 from Kd.R_mono ho0 (fun k_ hk => (.inl hk)))
  have HK := Aside0.mk (Kept.refl w (fun k_ => P0_ k_))
  have HW0 := Aside0.mk hB.size
  have HB := Aside0.mk hB
  clear hB
  have H : (laws_markIntS.l0 k l0 a1 0) = some (r1, r2) := h
  clear h
  have H' := Aside0.mk H
  clear H
  go_enter Try.func20, Try.ntmps20
  go_wp2
  go_loopg [1, 5] k (fun kq v1 v5 w' => ∃ (x0_1 : List Int) (x1_1 : Int) (x5_1 : Int), v1 = .int .i64 x1_1 ∧ v5 = .int .i64 x5_1 ∧ Aside0 (laws_markIntS.l0 kq x0_1 x1_1 x5_1 = some (r1, r2)) ∧ Aside0 (kq ≤ k) ∧ Aside0 (Kd.R (Kd.int .i64) 3 w' w0.heap.size (fun k_ => (P0_ k_ ∨ w.heap.size ≤ k_)) u9000_ x0_1) ∧ Aside0 (Kept w w' (fun k_ => P0_ k_)) ∧ Aside0 (Below w0.heap.size w0 w'))
  case atStart => exact ⟨(l0), (a1), (0), (by first | rfl | (simp; done) | (simp [*]; done)), (by first | rfl | (simp; done) | (simp [*]; done)), H', ⟨Nat.le_refl _⟩, ⟨by (with_reducible repeat (first | apply Kd.R_alloc | apply Kd.R_drewN | apply Kd.R_drew)); exact HO0.out⟩, ⟨by repeat (first | (with_reducible first | exact HK.out | apply Kept.alloc | apply Kept.drewN | apply Kept.drew) | exact HK.out)⟩, ⟨by repeat (first | (with_reducible first | exact HB.out | apply below_alloc | apply pw_below_drewN | apply below_drew1) | exact HB.out)⟩⟩
  case round =>
    clear H'
    try clear c2
    try clear p2
    obtain ⟨x0_1, x1_1, x5_1, rfl, rfl, HA, HK1, HO_0, HK, HB⟩ := hrel
    cases gk with
    | zero => exact absurd HA.out (by simp [laws_markIntS.l0])
    | succ k1 =>
      have H := HA.out
      clear HA
      simp only [laws_markIntS.l0] at H
      by_cases c3 : x5_1 < (x0_1.length : Int)
      · rw [if_pos c3] at H
        have c3b0 : decide (x5_1 < (x0_1.length : Int)) = true := decide_eq_true c3
        clear c3
        by_cases c4 : 0 ≤ x5_1
        · rw [if_pos c4] at H
          have c4b0 : decide (0 ≤ x5_1) = true := decide_eq_true c4
          clear c4
          obtain ⟨y101, hy101⟩ : ∃ y_ : List Int, y_ = (x0_1.set (x5_1 : Int).toNat x1_1) := ⟨_, rfl⟩
          replace H : (laws_markIntS.l0 k1 y101 (wrap64 (x1_1 + 1)) (wrap64 (x5_1 + 1))) = some (r1, r2) := by first | (rw [hy101]; with_reducible exact H) | (have H2_ := (Option.bind_some _ _).symm.trans H; rw [hy101]; with_reducible exact H2_) | (have H2_ := (Option.bind_some _ _).symm.trans H; with_reducible exact H2_) | with_reducible exact H | (rw [hy101]; exact H) | exact H
          have Ny101 := Aside0.mk hy101
          clear hy101
          have H' := Aside0.mk H
          clear H
          obtain ⟨Ao6, co6, eo6⟩ := Kd.R_slice HO_0.out
          subst eo6
          have p5 : 0 ≤ (x5_1 : Int) := of_decide_eq_true (by first | (with_reducible assumption) | assumption)
          have q5 : (x5_1 : Int) < ((x0_1.length : Int) : Int) := of_decide_eq_true (by first | (with_reducible assumption) | assumption)
          obtain ⟨go5, co5, eo5, gb5, gl5, cl5, HG5⟩ := Kd.R_form HO_0.out (by omega)
          (first | cases eo5 | (injection eo5 with ea_ en_ ec_; (first | subst ea_ | (injection ea_ with ea_; subst ea_)); subst ec_; clear en_))
          have GB5 := Aside0.mk gb5
          have GG5 := Aside0.mk HG5
          clear gb5 gl5 HG5
          have HMgo5 := Aside0.mk (show (P0_ go5 ∨ w.heap.size ≤ go5) from (HO_0.out.1 _ rfl))
          obtain ⟨hx5_0, hf5_0⟩ := Kd.R_celln 0 HO_0.out (x5_1 : Int) p5 q5
          replace p5 := eq_true p5
          replace q5 := eq_true q5
          have HP7 := Kd.R_putg HO_0.out (x5_1 : Int) x1_1
          go_wp2_with (first | ((with_reducible refine gate_store (t := 3) (p := 15) rfl ?_); refine store_event (t := 3) (p := 15) (v := ?vo_w8) (w1 := (wr.setCell ⟨go5, (x5_1 : Int).toNat, none⟩ (.int .i64 x1_1))) ?hg ?ho ?hn ?hr ?_; (case ho => rfl); (case hg => rfl); (case hn => rfl); (case hr => first | (go_simp; done) | (go_simp; rfl)); intro w8 hw; have hg : wr.grownBy w8 (some go5) := (by rw [hw]; exact HP7.2); have hp_ : Kd.R (Kd.int .i64) 3 w8 w0.heap.size (fun k_ => (P0_ k_ ∨ w.heap.size ≤ k_)) (.slice (some ⟨go5, 0, none⟩) x0_1.length co6) y101 := (by rw [hw, Ny101.out]; exact HP7.1); clear HP7; have n0_ := Aside0.mk (hp_); have n1_ := Aside0.mk ((by rw [hw]; exact below_set (HB.out) GB5.out : Below w0.heap.size w0 w8)); have n2_ := Aside0.mk (Kept.of_grown (S := (fun k_ => P0_ k_)) hg (by repeat (first | (with_reducible first | exact HK.out | apply Kept.alloc | apply Kept.drewN | apply Kept.drew) | exact HK.out)) (fun k_ e_ => (HO_0.out.1 k_ e_))); clear HO_0; clear HB; clear HK; have HO_0 := n0_; have HB := n1_; have HK := n2_; clear n0_ n1_ n2_; clear hg hw hp_))
          go_roundg k1
          case measure => have := HK1.out; omega
          case rel => exact ⟨(y101), (wrap64 (x1_1 + 1)), (wrap64 (x5_1 + 1)), (by first | rfl | (simp; done) | (simp [*]; done)), (by first | rfl | (simp; done) | (simp [*]; done)), H', ⟨by have := HK1.out; omega⟩, ⟨by (with_reducible repeat (first | apply Kd.R_alloc | apply Kd.R_drewN | apply Kd.R_drew)); exact HO_0.out⟩, ⟨by repeat (first | (with_reducible first | exact HK.out | apply Kept.alloc | apply Kept.drewN | apply Kept.drew) | exact HK.out)⟩, ⟨by repeat (first | (with_reducible first | exact HB.out | apply below_alloc | apply pw_below_drewN | apply below_drew1) | exact HB.out)⟩⟩
        · rw [if_neg c4] at H
          exact absurd H (by simp)
      · rw [if_neg c3] at H
        have c3b0 : decide (x5_1 < (x0_1.length : Int)) = false := decide_eq_false c3
        clear c3
        simp only [Option.some.injEq, Prod.mk.injEq] at H
        obtain ⟨rfl, rfl⟩ := H
        obtain ⟨Ao9, co9, eo9⟩ := Kd.R_slice HO_0.out
        subst eo9
        go_wp2
        go_ret
        exact ⟨by first | rfl | (simp [errW_none, errW_some] <;> rfl) | (simp [*, errW_none, errW_some] <;> rfl), by (with_reducible repeat (first | apply Kd.R_alloc | apply Kd.R_drewN | apply Kd.R_drew)); exact HO_0.out, by repeat (first | (with_reducible first | exact HB.out | apply below_alloc | apply pw_below_drewN | apply below_drew1) | exact HB.out), by repeat (first | (with_reducible first | exact HK.out | apply Kept.alloc | apply Kept.drewN | apply Kept.drew) | exact HK.out)⟩

end Go.Proofs.Ytohbdjdjjbieeaa.P

/-! F21 -/
namespace Go.Proofs.Ytohbdjdjjbieeaa.P
open Go.RowKit Go.Proofs.YtohbdjdjjbieeaaW.PrintWords Go.Proofs.YtohbdjdjjbieeaaW.PrintLast Go.Proofs.YtohbdjdjjbieeaaW.PrintMore
attribute [local go_sem] max2_int min2_int max_two min_two max_three min_three max_four min_four   -- for this text's walks alone
set_option linter.unusedVariables false
set_option linter.unusedSimpArgs false

/-! ### laws_heldIntS: function 21 -/
def laws_heldIntS.l0 : Nat → List Int → Int → Int → Option (Int)
  | 0, _, _, _ => none
  | k + 1, x0, x1, x5 => if x5 < (x0.length : Int) then (if 0 ≤ x5 then (if (rd x0 x5) = x1 then (laws_heldIntS.l0 k x0 (wrap64 (x1 + 1)) (wrap64 (x5 + 1))) else (some (-1))) else (none)) else (some x1)
def laws_heldIntS.f (k : Nat) (l0 : List Int) (a1 : Int) : Option (Int) := laws_heldIntS.l0 k l0 a1 0
theorem laws_heldIntS.mono_l : ∀ k, (∀ y0 y1 y2, LeO (laws_heldIntS.l0 k y0 y1 y2) (laws_heldIntS.l0 (k + 1) y0 y1 y2))
  | 0 => fun _ _ _ r h => by simp [laws_heldIntS.l0] at h
  | k + 1 => by
    have ih0 := laws_heldIntS.mono_l k
    · intro y0 y1 y2
      unfold laws_heldIntS.l0
      repeat' first
      | (with_reducible exact ih0 _ _ _)
      | (with_reducible exact LeO.refl _)
      | (with_reducible exact LeO.none _)
      | (with_reducible refine LeO.ite ?_ ?_)
      | (with_reducible refine LeO.bind ?_ (fun _ => ?_))
      | exact ih0 _ _ _
      | exact LeO.none _
      | refine LeO.ite ?_ ?_
      | refine LeO.bind ?_ (fun _ => ?_)
theorem laws_heldIntS.mono : ∀ a0 a1 k, LeO (laws_heldIntS.f k a0 a1) (laws_heldIntS.f (k + 1) a0 a1) := by
  intro a0 a1 k
  have ih0 := laws_heldIntS.mono_l k
  unfold laws_heldIntS.f
  repeat' first
      | (with_reducible exact ih0 _ _ _)
      | (with_reducible exact LeO.refl _)
      | (with_reducible exact LeO.none _)
      | (with_reducible refine LeO.ite ?_ ?_)
      | (with_reducible refine LeO.bind ?_ (fun _ => ?_))
      | exact ih0 _ _ _
      | exact LeO.none _
      | refine LeO.ite ?_ ?_
      | refine LeO.bind ?_ (fun _ => ?_)
set_option maxHeartbeats 8000000 in
set_option maxRecDepth 100000 in
theorem laws_heldIntS.calls (k : Nat) (A0 : Option Addr) (c0 : Nat) (l0 : List Int) (a1 : Int) (r : Int) (w : World) (hr0 : Kd.C (Kd.int .i64) w A0 l0.length l0) (hc0 : l0.length ≤ c0) (h : laws_heldIntS.f k l0 a1 = some r) :
    Calls Try.prog 21 #[.slice A0 l0.length c0, .int .i64 a1] w fun e w' => e = .returned (.int .i64 r) ∧ Drawn0 w w' := by
  have HR0 := Aside0.mk hr0
  have HC0 := Aside0.mk hc0
  clear hr0 hc0
  have H : (laws_heldIntS.l0 k l0 a1 0) = some r := h
  clear h
  have H' := Aside0.mk H
  clear H
  go_enter Try.func21, Try.ntmps21
  go_wp2
  go_loopg [1, 5] k (fun kq v1 v5 w' => ∃ (x1_1 : Int) (x5_1 : Int), v1 = .int .i64 x1_1 ∧ v5 = .int .i64 x5_1 ∧ Aside0 (laws_heldIntS.l0 kq l0 x1_1 x5_1 = some r) ∧ Aside0 (kq ≤ k) ∧ Drawn0 w w')
  case atStart => exact ⟨(a1), (0), (by first | rfl | (simp; done) | (simp [*]; done)), (by first | rfl | (simp; done) | (simp [*]; done)), H', ⟨Nat.le_refl _⟩, by repeat (first | exact Drawn0.refl _ | apply Drawn0.step)⟩
  case round =>
    clear H'
    try clear c2
    try clear p2
    obtain ⟨x1_1, x5_1, rfl, rfl, HA, HK1, ⟨m1, rfl⟩⟩ := hrel
    cases gk with
    | zero => exact absurd HA.out (by simp [laws_heldIntS.l0])
    | succ k1 =>
      have H := HA.out
      clear HA
      simp only [laws_heldIntS.l0] at H
      by_cases c3 : x5_1 < (l0.length : Int)
      · rw [if_pos c3] at H
        have c3b0 : decide (x5_1 < (l0.length : Int)) = true := decide_eq_true c3
        clear c3
        by_cases c4 : 0 ≤ x5_1
        · rw [if_pos c4] at H
          have c4b0 : decide (0 ≤ x5_1) = true := decide_eq_true c4
          clear c4
          by_cases c5 : (rd l0 x5_1) = x1_1
          · rw [if_pos c5] at H
            have c5b0 : ((rd l0 x5_1) == x1_1) = true := beq_iff_eq.mpr c5
            have c5b1 : ((rd l0 x5_1) != x1_1) = false := bne_eq_false_iff_eq.mpr c5
            clear c5
            have H' := Aside0.mk H
            clear H
            have p101 : 0 ≤ (x5_1 : Int) := of_decide_eq_true (by first | (with_reducible assumption) | assumption)
            have q101 : x5_1 < (l0.length : Int) := of_decide_eq_true (by first | (with_reducible assumption) | assumption)
            obtain ⟨ad101, e101, hx101_0⟩ := Kd.at_int HR0.out x5_1 p101 q101
            cases e101
            replace p101 := eq_true p101
            replace q101 := eq_true q101
            go_wp2
            go_roundg k1
            case measure => have := HK1.out; omega
            case rel => exact ⟨(wrap64 (x1_1 + 1)), (wrap64 (x5_1 + 1)), (by first | rfl | (simp; done) | (simp [*]; done)), (by first | rfl | (simp; done) | (simp [*]; done)), H', ⟨by have := HK1.out; omega⟩, by repeat (first | exact Drawn0.refl _ | apply Drawn0.step)⟩
          · rw [if_neg c5] at H
            have c5b0 : ((rd l0 x5_1) == x1_1) = false := beq_eq_false_iff_ne.mpr c5
            have c5b1 : ((rd l0 x5_1) != x1_1) = true := bne_iff_ne.mpr c5
            obtain rfl := Option.some.inj H
            have p101 : 0 ≤ (x5_1 : Int) := of_decide_eq_true (by first | (with_reducible assumption) | assumption)
            have q101 : x5_1 < (l0.length : Int) := of_decide_eq_true (by first | (with_reducible assumption) | assumption)
            obtain ⟨ad101, e101, hx101_0⟩ := Kd.at_int HR0.out x5_1 p101 q101
            cases e101
            replace p101 := eq_true p101
            replace q101 := eq_true q101
            go_wp2
            go_ret
            exact ⟨by first | rfl | (simp; done) | (simp [*]; done), by repeat (first | exact Drawn0.refl _ | apply Drawn0.step)⟩
        · rw [if_neg c4] at H
          exact absurd H (by simp)
      · rw [if_neg c3] at H
        have c3b0 : decide (x5_1 < (l0.length : Int)) = false := decide_eq_false c3
        clear c3
        obtain rfl := Option.some.inj H
        go_wp2
        go_ret
        exact ⟨by first | rfl | (simp; done) | (simp [*]; done), by repeat (first | exact Drawn0.refl _ | apply Drawn0.step)⟩

end Go.Proofs.Ytohbdjdjjbieeaa.P

/-! Mi -/
/- The laws' marks in a row of numbers; and that they are found again. -/
namespace Go.Proofs.Ytohbdjdjjbieeaa.P
open Go.RowKit Go.Proofs.YtohbdjdjjbieeaaW.PrintWords Go.Proofs.YtohbdjdjjbieeaaW.PrintLast Go.Proofs.YtohbdjdjjbieeaaW.PrintMore
set_option linter.unusedVariables false
set_option linter.unusedSimpArgs false

/-- n, n + 1, ..: m numbers. -/
def ramp (n : Int) : Nat → List Int
  | 0 => []
  | m + 1 => ramp n m ++ [n + m]
theorem ramp_len (n : Int) (m : Nat) : (ramp n m).length = m := by
  induction m with
  | zero => rfl
  | succ m ih => simp [ramp, ih]
theorem ramp_get (n : Int) (m i : Nat) (h : i < m) : (ramp n m).getD i 0 = n + i := by
  induction m with
  | zero => omega
  | succ m ih =>
    simp only [ramp, List.getD_eq_getElem?_getD]
    by_cases e : i < m
    · rw [List.getElem?_append_left (by rw [ramp_len]; exact e), ← List.getD_eq_getElem?_getD]; exact ih e
    · obtain rfl : i = m := by omega
      rw [List.getElem?_append_right (by rw [ramp_len]; omega)]; simp [ramp_len]
theorem markIntS_loop (l : List Int) (hl : l.length ≤ 1152921504606846976) (n : Int) (hn : 0 ≤ n) (hn' : n ≤ 1152921504606846976) (d : Nat) : ∀ (k i : Nat), i ≤ l.length → l.length - i = d → d < k →
    laws_markIntS.l0 k (ramp n i ++ l.drop i) (n + i) i = some (n + (l.length : Int), ramp n l.length) := by
  induction d with
  | zero =>
    intro k i h1 hd hk
    obtain ⟨k, rfl⟩ : ∃ m, k = m + 1 := ⟨k - 1, by omega⟩
    obtain rfl : i = l.length := by omega
    simp only [laws_markIntS.l0]
    rw [if_neg (by simp [ramp_len])]
    simp
  | succ d ih =>
    intro k i h1 hd hk
    obtain ⟨k, rfl⟩ : ∃ m, k = m + 1 := ⟨k - 1, by omega⟩
    simp only [laws_markIntS.l0]
    rw [if_pos (by simp [ramp_len]; omega), if_pos (by omega)]
    have e1 : wrap64 ((i : Int) + 1) = ((i + 1 : Nat) : Int) := by unfold wrap64; omega
    have e2 : wrap64 (n + (i : Int) + 1) = n + ((i + 1 : Nat) : Int) := by unfold wrap64; omega
    have e3 : (ramp n i ++ l.drop i).set (i : Int).toNat (n + i) = ramp n (i + 1) ++ l.drop (i + 1) := by
      rw [getD_drop l i 0 (by omega), Int.toNat_natCast, set_mid _ _ _ _ _ (ramp_len n i)]
      simp [ramp]
    rw [e1, e2, e3]
    exact ih k (i + 1) (by omega) (by omega) (by omega)
theorem markIntS_eq (l : List Int) (hl : l.length ≤ 1152921504606846976) (n : Int) (hn : 0 ≤ n) (hn' : n ≤ 1152921504606846976) (k : Nat) (hk : l.length < k) : laws_markIntS.f k l n = some (n + (l.length : Int), ramp n l.length) := by
  have := markIntS_loop l hl n hn hn' l.length k 0 (by omega) (by omega) hk
  unfold laws_markIntS.f
  simpa [ramp] using this
theorem heldIntS_loop (m : Nat) (hm : m ≤ 1152921504606846976) (n : Int) (hn : 0 ≤ n) (hn' : n ≤ 1152921504606846976) (d : Nat) : ∀ (k i : Nat), i ≤ m → m - i = d → d < k →
    laws_heldIntS.l0 k (ramp n m) (n + i) i = some (n + (m : Int)) := by
  induction d with
  | zero =>
    intro k i h1 hd hk
    obtain ⟨k, rfl⟩ : ∃ m, k = m + 1 := ⟨k - 1, by omega⟩
    obtain rfl : i = m := by omega
    simp only [laws_heldIntS.l0]
    rw [if_neg (by simp [ramp_len])]
  | succ d ih =>
    intro k i h1 hd hk
    obtain ⟨k, rfl⟩ : ∃ m, k = m + 1 := ⟨k - 1, by omega⟩
    simp only [laws_heldIntS.l0]
    rw [if_pos (by simp [ramp_len]; omega), if_pos (by omega), if_pos (by unfold rd; simpa using ramp_get n m i (by omega))]
    have e1 : wrap64 ((i : Int) + 1) = ((i + 1 : Nat) : Int) := by unfold wrap64; omega
    have e2 : wrap64 (n + (i : Int) + 1) = n + ((i + 1 : Nat) : Int) := by unfold wrap64; omega
    rw [e1, e2]
    exact ih k (i + 1) (by omega) (by omega) (by omega)
theorem heldIntS_eq (m : Nat) (hm : m ≤ 1152921504606846976) (n : Int) (hn : 0 ≤ n) (hn' : n ≤ 1152921504606846976) (k : Nat) (hk : m < k) : laws_heldIntS.f k (ramp n m) n = some (n + (m : Int)) := by
  have := heldIntS_loop m hm n hn hn' m k 0 (by omega) (by omega) hk
  unfold laws_heldIntS.f
  simpa using this

/-- A row of numbers of the call's own, marked. -/
theorem markIntS_calls (P0_ : Nat → Prop) (u : Value) (l0 : List Int) (a1 : Int) (w0 w : World) (hB : Below w0.heap.size w0 w) (ho0 : Kd.R (Kd.int .i64) 3 w w0.heap.size P0_ u l0) (ha : 0 ≤ a1) (hs : a1 + (l0.length : Int) ≤ 1152921504606846976) :
    Calls Try.prog 20 #[u, .int .i64 a1] w fun e w' => e = .returned (.int .i64 (a1 + (l0.length : Int))) ∧ Kd.R (Kd.int .i64) 3 w' w0.heap.size P0_ u (ramp a1 l0.length) ∧ Below w0.heap.size w0 w' ∧ Kept w w' P0_ := by
  refine (laws_markIntS.calls (l0.length + 1) P0_ u l0 a1 _ _ w0 w hB ho0 (markIntS_eq l0 (by omega) a1 ha (by omega) (l0.length + 1) (by omega))).mono ?_
  rintro e w' ⟨he, ho, hb, hk⟩
  exact ⟨he, Kd.R_mono (Kd.R_tight rfl ho) (fun q hq => ho0.1 q hq.symm), hb, hk⟩
/-- The marks are found again. -/
theorem heldIntS_calls (A : Option Addr) (c : Nat) (l : List Int) (a1 : Int) (w : World) (hr : Kd.C (Kd.int .i64) w A (ramp a1 l.length).length (ramp a1 l.length)) (hc : l.length ≤ c) (ha : 0 ≤ a1) (hs : a1 + (l.length : Int) ≤ 1152921504606846976) :
    Calls Try.prog 21 #[.slice A l.length c, .int .i64 a1] w fun e w' => e = .returned (.int .i64 (a1 + (l.length : Int))) ∧ Below w.heap.size w w' := by
  have H := laws_heldIntS.calls (l.length + 1) A c (ramp a1 l.length) a1 (a1 + (l.length : Int)) w hr (by rw [ramp_len]; exact hc) (heldIntS_eq l.length (by omega) a1 ha (by omega) (l.length + 1) (by omega))
  rw [ramp_len] at H
  refine H.mono ?_
  rintro e w' ⟨he, n, rfl⟩
  exact ⟨he, pw_below_drewN (Below.refl _ _) n⟩

end Go.Proofs.Ytohbdjdjjbieeaa.P

/-! F52 -/
namespace Go.Proofs.Ytohbdjdjjbieeaa.P
open Go.RowKit Go.Proofs.YtohbdjdjjbieeaaW.PrintWords Go.Proofs.YtohbdjdjjbieeaaW.PrintLast Go.Proofs.YtohbdjdjjbieeaaW.PrintMore
attribute [local go_sem] max2_int min2_int max_two min_two max_three min_three max_four min_four   -- for this text's walks alone
set_option linter.unusedVariables false
set_option linter.unusedSimpArgs false

/-! ### laws_heldRuleS: function 52 -/
def laws_heldRuleS.l0 : Nat → List (S47) → Int → Int → Option (Int)
  | 0, _, _, _ => none
  | k + 1, x0, x1, x5 => if x5 < (x0.length : Int) then (if 0 ≤ x5 then (if ((rd_T47 x0 x5).f0) = x1 then ((laws_heldIntS.f k ((rd_T47 x0 x5).f1) (wrap64 (x1 + 1))).bind fun t103 => (if t103 < 0 then (some (-1)) else (laws_heldRuleS.l0 k x0 t103 (wrap64 (x5 + 1))))) else (some (-1))) else (none)) else (some x1)
def laws_heldRuleS.f (k : Nat) (l0 : List (S47)) (a1 : Int) : Option (Int) := laws_heldRuleS.l0 k l0 a1 0
theorem laws_heldRuleS.mono_l : ∀ k, (∀ y0 y1 y2, LeO (laws_heldRuleS.l0 k y0 y1 y2) (laws_heldRuleS.l0 (k + 1) y0 y1 y2))
  | 0 => fun _ _ _ r h => by simp [laws_heldRuleS.l0] at h
  | k + 1 => by
    have ih0 := laws_heldRuleS.mono_l k
    · intro y0 y1 y2
      unfold laws_heldRuleS.l0
      repeat' first
      | (with_reducible exact ih0 _ _ _)
      | (with_reducible exact laws_heldIntS.mono _ _ _)
      | (with_reducible exact LeO.refl _)
      | (with_reducible exact LeO.none _)
      | (with_reducible refine LeO.ite ?_ ?_)
      | (with_reducible refine LeO.bind ?_ (fun _ => ?_))
      | exact ih0 _ _ _
      | exact laws_heldIntS.mono _ _ _
      | exact LeO.none _
      | refine LeO.ite ?_ ?_
      | refine LeO.bind ?_ (fun _ => ?_)
theorem laws_heldRuleS.mono : ∀ a0 a1 k, LeO (laws_heldRuleS.f k a0 a1) (laws_heldRuleS.f (k + 1) a0 a1) := by
  intro a0 a1 k
  have ih0 := laws_heldRuleS.mono_l k
  unfold laws_heldRuleS.f
  repeat' first
      | (with_reducible exact ih0 _ _ _)
      | (with_reducible exact laws_heldIntS.mono _ _ _)
      | (with_reducible exact LeO.refl _)
      | (with_reducible exact LeO.none _)
      | (with_reducible refine LeO.ite ?_ ?_)
      | (with_reducible refine LeO.bind ?_ (fun _ => ?_))
      | exact ih0 _ _ _
      | exact laws_heldIntS.mono _ _ _
      | exact LeO.none _
      | refine LeO.ite ?_ ?_
      | refine LeO.bind ?_ (fun _ => ?_)
set_option maxHeartbeats 8000000 in
set_option maxRecDepth 100000 in
theorem laws_heldRuleS.calls (k : Nat) (A0 : Option Addr) (c0 : Nat) (l0 : List (S47)) (a1 : Int) (r : Int) (w : World) (hr0 : Kd.C k47 w A0 l0.length l0) (hc0 : l0.length ≤ c0) (h : laws_heldRuleS.f k l0 a1 = some r) :
    Calls Try.prog 52 #[.slice A0 l0.length c0, .int .i64 a1] w fun e w' => e = .returned (.int .i64 r) ∧ Drawn0 w w' := by
  have HR0 := Aside0.mk hr0
  have HC0 := Aside0.mk hc0
  clear hr0 hc0
  have H : (laws_heldRuleS.l0 k l0 a1 0) = some r := h
  clear h
  have H' := Aside0.mk H
  clear H
  go_enter Try.func52, Try.ntmps52
  go_wp2
  go_loopg [1, 5] k (fun kq v1 v5 w' => ∃ (x1_1 : Int) (x5_1 : Int), v1 = .int .i64 x1_1 ∧ v5 = .int .i64 x5_1 ∧ Aside0 (laws_heldRuleS.l0 kq l0 x1_1 x5_1 = some r) ∧ Aside0 (kq ≤ k) ∧ Drawn0 w w')
  case atStart => exact ⟨(a1), (0), (by first | rfl | (simp; done) | (simp [*]; done)), (by first | rfl | (simp; done) | (simp [*]; done)), H', ⟨Nat.le_refl _⟩, by repeat (first | exact Drawn0.refl _ | apply Drawn0.step)⟩
  case round =>
    clear H'
    try clear p2
    obtain ⟨x1_1, x5_1, rfl, rfl, HA, HK1, ⟨m1, rfl⟩⟩ := hrel
    cases gk with
    | zero => exact absurd HA.out (by simp [laws_heldRuleS.l0])
    | succ k1 =>
      have H := HA.out
      clear HA
      simp only [laws_heldRuleS.l0] at H
      by_cases c3 : x5_1 < (l0.length : Int)
      · rw [if_pos c3] at H
        have c3b0 : decide (x5_1 < (l0.length : Int)) = true := decide_eq_true c3
        clear c3
        by_cases c4 : 0 ≤ x5_1
        · rw [if_pos c4] at H
          have c4b0 : decide (0 ≤ x5_1) = true := decide_eq_true c4
          clear c4
          by_cases c5 : ((rd_T47 l0 x5_1).f0) = x1_1
          · rw [if_pos c5] at H
            have c5b0 : (((rd_T47 l0 x5_1).f0) == x1_1) = true := beq_iff_eq.mpr c5
            have c5b1 : (((rd_T47 l0 x5_1).f0) != x1_1) = false := bne_eq_false_iff_eq.mpr c5
            clear c5
            replace H := Option.bind_eq_some_iff.mp H
            obtain ⟨t103, A60, H⟩ := H
            replace H : (if t103 < 0 then (some (-1)) else (laws_heldRuleS.l0 k1 l0 t103 (wrap64 (x5_1 + 1)))) = some r := H
            have A6 := Aside0.mk A60
            clear A60
            by_cases c7 : t103 < 0
            · rw [if_pos c7] at H
              have c7b0 : decide (t103 < 0) = true := decide_eq_true c7
              clear c7
              obtain rfl := Option.some.inj H
              have p101 : 0 ≤ (x5_1 : Int) := of_decide_eq_true (by first | (with_reducible assumption) | assumption)
              have q101 : x5_1 < (l0.length : Int) := of_decide_eq_true (by first | (with_reducible assumption) | assumption)
              obtain ⟨ad101, A101_1, c101_1, e101, hx101_0, hx101_1, hl101_1, hi101_1⟩ := at_T47 HR0.out x5_1 p101 q101
              cases e101
              have HR101_1 := Aside0.mk hi101_1
              have HC101_1 := Aside0.mk hl101_1
              clear hi101_1 hl101_1
              replace p101 := eq_true p101
              replace q101 := eq_true q101
              have p102 : 0 ≤ (x5_1 : Int) := of_decide_eq_true (by first | (with_reducible assumption) | assumption)
              have q102 : x5_1 < (l0.length : Int) := of_decide_eq_true (by first | (with_reducible assumption) | assumption)
              obtain ⟨ad102, A102_1, c102_1, e102, hx102_0, hx102_1, hl102_1, hi102_1⟩ := at_T47 HR0.out x5_1 p102 q102
              obtain rfl : ad101 = ad102 := (by injection e102)
              have HR102_1 := Aside0.mk hi102_1
              have HC102_1 := Aside0.mk hl102_1
              clear hi102_1 hl102_1
              replace p102 := eq_true p102
              replace q102 := eq_true q102
              have ea_ := Option.some.inj (hx101_1.symm.trans hx102_1)
              injection ea_ with ea_ en_ ec_
              subst ea_
              subst ec_
              clear en_
              go_wp2_with (first | ((with_reducible refine gate_callee (f := 21) rfl ?_); refine goesL_ (some 27) rfl rfl Try.func21 (by kernel_rfl) rfl #[.slice A101_1 ((rd_T47 l0 x5_1).f1).length c101_1, .int .i64 (wrap64 (x1_1 + 1))] rfl (by (try simp only [List.map_toArray, List.map_cons, List.map_nil]); first | done | rfl | (simp only [List.length_drop, List.length_take]; rfl)) ?_; (with_reducible refine (laws_heldIntS.calls k1 _ _ ((rd_T47 l0 x5_1).f1) (wrap64 (x1_1 + 1)) t103 _ ?side1 ?side2 A6.out).mono ?_); (case side1 => repeat (first | exact HR102_1.out | (with_reducible refine Kd.C_alloc ?_ _) | (with_reducible refine Kd.C_drewN ?_ _) | (with_reducible refine Kd.C_drew ?_))); (case side2 => exact HC102_1.out); rintro e w' ⟨rfl, ⟨nd, rfl⟩⟩; refine ⟨_, rfl, ?_⟩))
              go_ret
              exact ⟨by first | rfl | (simp; done) | (simp [*]; done), by repeat (first | exact Drawn0.refl _ | apply Drawn0.step)⟩
            · rw [if_neg c7] at H
              have c7b0 : decide (t103 < 0) = false := decide_eq_false c7
              clear c7
              have H' := Aside0.mk H
              clear H
              have p101 : 0 ≤ (x5_1 : Int) := of_decide_eq_true (by first | (with_reducible assumption) | assumption)
              have q101 : x5_1 < (l0.length : Int) := of_decide_eq_true (by first | (with_reducible assumption) | assumption)
              obtain ⟨ad101, A101_1, c101_1, e101, hx101_0, hx101_1, hl101_1, hi101_1⟩ := at_T47 HR0.out x5_1 p101 q101
              cases e101
              have HR101_1 := Aside0.mk hi101_1
              have HC101_1 := Aside0.mk hl101_1
              clear hi101_1 hl101_1
              replace p101 := eq_true p101
              replace q101 := eq_true q101
              have p102 : 0 ≤ (x5_1 : Int) := of_decide_eq_true (by first | (with_reducible assumption) | assumption)
              have q102 : x5_1 < (l0.length : Int) := of_decide_eq_true (by first | (with_reducible assumption) | assumption)
              obtain ⟨ad102, A102_1, c102_1, e102, hx102_0, hx102_1, hl102_1, hi102_1⟩ := at_T47 HR0.out x5_1 p102 q102
              obtain rfl : ad101 = ad102 := (by injection e102)
              have HR102_1 := Aside0.mk hi102_1
              have HC102_1 := Aside0.mk hl102_1
              clear hi102_1 hl102_1
              replace p102 := eq_true p102
              replace q102 := eq_true q102
              have ea_ := Option.some.inj (hx101_1.symm.trans hx102_1)
              injection ea_ with ea_ en_ ec_
              subst ea_
              subst ec_
              clear en_
              go_wp2_with (first | ((with_reducible refine gate_callee (f := 21) rfl ?_); refine goesL_ (some 27) rfl rfl Try.func21 (by kernel_rfl) rfl #[.slice A101_1 ((rd_T47 l0 x5_1).f1).length c101_1, .int .i64 (wrap64 (x1_1 + 1))] rfl (by (try simp only [List.map_toArray, List.map_cons, List.map_nil]); first | done | rfl | (simp only [List.length_drop, List.length_take]; rfl)) ?_; (with_reducible refine (laws_heldIntS.calls k1 _ _ ((rd_T47 l0 x5_1).f1) (wrap64 (x1_1 + 1)) t103 _ ?side1 ?side2 A6.out).mono ?_); (case side1 => repeat (first | exact HR102_1.out | (with_reducible refine Kd.C_alloc ?_ _) | (with_reducible refine Kd.C_drewN ?_ _) | (with_reducible refine Kd.C_drew ?_))); (case side2 => exact HC102_1.out); rintro e w' ⟨rfl, ⟨nd, rfl⟩⟩; refine ⟨_, rfl, ?_⟩))
              go_roundg k1
              case measure => have := HK1.out; omega
              case rel => exact ⟨(t103), (wrap64 (x5_1 + 1)), (by first | rfl | (simp; done) | (simp [*]; done)), (by first | rfl | (simp; done) | (simp [*]; done)), H', ⟨by have := HK1.out; omega⟩, by repeat (first | exact Drawn0.refl _ | apply Drawn0.step)⟩
          · rw [if_neg c5] at H
            have c5b0 : (((rd_T47 l0 x5_1).f0) == x1_1) = false := beq_eq_false_iff_ne.mpr c5
            have c5b1 : (((rd_T47 l0 x5_1).f0) != x1_1) = true := bne_iff_ne.mpr c5
            obtain rfl := Option.some.inj H
            have p101 : 0 ≤ (x5_1 : Int) := of_decide_eq_true (by first | (with_reducible assumption) | assumption)
            have q101 : x5_1 < (l0.length : Int) := of_decide_eq_true (by first | (with_reducible assumption) | assumption)
            obtain ⟨ad101, A101_1, c101_1, e101, hx101_0, hx101_1, hl101_1, hi101_1⟩ := at_T47 HR0.out x5_1 p101 q101
            cases e101
            have HR101_1 := Aside0.mk hi101_1
            have HC101_1 := Aside0.mk hl101_1
            clear hi101_1 hl101_1
            replace p101 := eq_true p101
            replace q101 := eq_true q101
            go_wp2
            go_ret
            exact ⟨by first | rfl | (simp; done) | (simp [*]; done), by repeat (first | exact Drawn0.refl _ | apply Drawn0.step)⟩
        · rw [if_neg c4] at H
          exact absurd H (by simp)
      · rw [if_neg c3] at H
        have c3b0 : decide (x5_1 < (l0.length : Int)) = false := decide_eq_false c3
        clear c3
        obtain rfl := Option.some.inj H
        go_wp2
        go_ret
        exact ⟨by first | rfl | (simp; done) | (simp [*]; done), by repeat (first | exact Drawn0.refl _ | apply Drawn0.step)⟩

end Go.Proofs.Ytohbdjdjjbieeaa.P

/-! F32 -/
namespace Go.Proofs.Ytohbdjdjjbieeaa.P
open Go.RowKit Go.Proofs.YtohbdjdjjbieeaaW.PrintWords Go.Proofs.YtohbdjdjjbieeaaW.PrintLast Go.Proofs.YtohbdjdjjbieeaaW.PrintMore
attribute [local go_sem] max2_int min2_int max_two min_two max_three min_three max_four min_four   -- for this text's walks alone
set_option linter.unusedVariables false
set_option linter.unusedSimpArgs false

/-! ### laws_heldGrammar: function 32 -/
def laws_heldGrammar.f (k : Nat) (a0_0 : Int) (a0_1 : Int) (l0_2 : List (S47)) (a1 : Int) : Option (Int) := (laws_heldRuleS.f k l0_2 a1).bind fun t102 => (if t102 < 0 then (some (-1)) else (some t102))
theorem laws_heldGrammar.mono : ∀ a0 a1 a2 a3 k, LeO (laws_heldGrammar.f k a0 a1 a2 a3) (laws_heldGrammar.f (k + 1) a0 a1 a2 a3) := by
  intro a0 a1 a2 a3 k
  unfold laws_heldGrammar.f
  repeat' first
      | (with_reducible exact laws_heldRuleS.mono _ _ _)
      | (with_reducible exact LeO.refl _)
      | (with_reducible exact LeO.none _)
      | (with_reducible refine LeO.ite ?_ ?_)
      | (with_reducible refine LeO.bind ?_ (fun _ => ?_))
      | exact laws_heldRuleS.mono _ _ _
      | exact LeO.none _
      | refine LeO.ite ?_ ?_
      | refine LeO.bind ?_ (fun _ => ?_)
set_option maxHeartbeats 8000000 in
set_option maxRecDepth 100000 in
theorem laws_heldGrammar.calls (k : Nat) (a0_0 : Int) (a0_1 : Int) (A0_2 : Option Addr) (c0_2 : Nat) (l0_2 : List (S47)) (a1 : Int) (r : Int) (w : World) (hr0_2 : Kd.C k47 w A0_2 l0_2.length l0_2) (hc0_2 : l0_2.length ≤ c0_2) (h : laws_heldGrammar.f k a0_0 a0_1 l0_2 a1 = some r) :
    Calls Try.prog 32 #[.agg #[.int .i64 a0_0, .int .i64 a0_1, .slice A0_2 l0_2.length c0_2], .int .i64 a1] w fun e w' => e = .returned (.int .i64 r) ∧ Below w.heap.size w w' := by
  have hu30 := Try.underlying30
  have HR0_2 := Aside0.mk hr0_2
  have HC0_2 := Aside0.mk hc0_2
  clear hr0_2 hc0_2
  have HB := Aside0.mk (Below.refl w.heap.size w)
  have H : ((laws_heldRuleS.f k l0_2 a1).bind fun t102 => (if t102 < 0 then (some (-1)) else (some t102))) = some r := h
  clear h
  replace H := Option.bind_eq_some_iff.mp H
  obtain ⟨t102, A30, H⟩ := H
  replace H : (if t102 < 0 then (some (-1)) else (some t102)) = some r := H
  have A3 := Aside0.mk A30
  clear A30
  by_cases c4 : t102 < 0
  · rw [if_pos c4] at H
    have c4b0 : decide (t102 < 0) = true := decide_eq_true c4
    clear c4
    obtain rfl := Option.some.inj H
    go_enter Try.func32, Try.ntmps32
    go_wp2_with (first | ((with_reducible refine gate_dst (N := 2) rfl ?_); refine box_event ?hg (N := 2) ?hd (cs := #[.int .i64 a0_0, .int .i64 a0_1, .slice A0_2 l0_2.length c0_2]) (t := 30) ?hr ?_; (case hd => rfl); (case hg => rfl); (case hr => first | (go_simp; done) | (go_simp; rfl)); intro gb101 hg w5 hbox hb; have n0_ := Aside0.mk (below_step (by repeat (first | (with_reducible first | exact HB.out | apply below_alloc | apply pw_below_drewN | apply below_drew1) | exact HB.out)) hb); have n1_ := Aside0.mk (hbox); have n2_ := Aside0.mk ((by rw [hg]; exact (below_size (by repeat (first | (with_reducible first | exact HB.out | apply below_alloc | apply pw_below_drewN | apply below_drew1) | exact HB.out))) : w.heap.size ≤ gb101)); have n3_ := Aside0.mk ((by rw [hg]; exact (below_size (by repeat (first | (with_reducible first | exact HB.out | apply below_alloc | apply pw_below_drewN | apply below_drew1) | exact HB.out))) : w.heap.size ≤ gb101)); clear HB; have HB := n0_; have BK101 := n1_; have GW101 := n2_; have GE101 := n3_; clear n0_ n1_ n2_ n3_; clear hb hbox hg; have hcz6_0 : w5.cell? ⟨gb101, 0, none⟩ = some (.int .i64 a0_0) := (blk_cell BK101.out 0).trans rfl; have hcz6_1 : w5.cell? ⟨gb101, 1, none⟩ = some (.int .i64 a0_1) := (blk_cell BK101.out 1).trans rfl; have hcz6_2 : w5.cell? ⟨gb101, 2, none⟩ = some (.slice A0_2 l0_2.length c0_2) := (blk_cell BK101.out 2).trans rfl; have hfz6_0 := blk_frozen BK101.out 0; have hfz6_1 := blk_frozen BK101.out 1; have hfz6_2 := blk_frozen BK101.out 2) | ((with_reducible refine gate_callee (f := 52) rfl ?_); refine goesL_ (some 8) rfl rfl Try.func52 (by kernel_rfl) rfl #[.slice A0_2 l0_2.length c0_2, .int .i64 a1] rfl (by (try simp only [List.map_toArray, List.map_cons, List.map_nil]); first | done | rfl | (simp only [List.length_drop, List.length_take]; rfl)) ?_; (with_reducible refine (laws_heldRuleS.calls k _ _ l0_2 a1 t102 _ ?side1 ?side2 A3.out).mono ?_); (case side1 => repeat (first | exact (Kd.C_below HR0_2.out HB.out) | (with_reducible refine Kd.C_alloc ?_ _) | (with_reducible refine Kd.C_drewN ?_ _) | (with_reducible refine Kd.C_drew ?_))); (case side2 => exact HC0_2.out); rintro e w' ⟨rfl, ⟨nd, rfl⟩⟩; refine ⟨_, rfl, ?_⟩))
    go_ret
    exact ⟨by first | rfl | (simp [errW_none, errW_some] <;> rfl) | (simp [*, errW_none, errW_some] <;> rfl), by repeat (first | (with_reducible first | exact HB.out | apply below_alloc | apply pw_below_drewN | apply below_drew1 | refine below_set ?_ GE101.out) | exact HB.out)⟩
  · rw [if_neg c4] at H
    have c4b0 : decide (t102 < 0) = false := decide_eq_false c4
    clear c4
    obtain rfl := Option.some.inj H
    go_enter Try.func32, Try.ntmps32
    go_wp2_with (first | ((with_reducible refine gate_dst (N := 2) rfl ?_); refine box_event ?hg (N := 2) ?hd (cs := #[.int .i64 a0_0, .int .i64 a0_1, .slice A0_2 l0_2.length c0_2]) (t := 30) ?hr ?_; (case hd => rfl); (case hg => rfl); (case hr => first | (go_simp; done) | (go_simp; rfl)); intro gb101 hg w7 hbox hb; have n0_ := Aside0.mk (below_step (by repeat (first | (with_reducible first | exact HB.out | apply below_alloc | apply pw_below_drewN | apply below_drew1) | exact HB.out)) hb); have n1_ := Aside0.mk (hbox); have n2_ := Aside0.mk ((by rw [hg]; exact (below_size (by repeat (first | (with_reducible first | exact HB.out | apply below_alloc | apply pw_below_drewN | apply below_drew1) | exact HB.out))) : w.heap.size ≤ gb101)); have n3_ := Aside0.mk ((by rw [hg]; exact (below_size (by repeat (first | (with_reducible first | exact HB.out | apply below_alloc | apply pw_below_drewN | apply below_drew1) | exact HB.out))) : w.heap.size ≤ gb101)); clear HB; have HB := n0_; have BK101 := n1_; have GW101 := n2_; have GE101 := n3_; clear n0_ n1_ n2_ n3_; clear hb hbox hg; have hcz8_0 : w7.cell? ⟨gb101, 0, none⟩ = some (.int .i64 a0_0) := (blk_cell BK101.out 0).trans rfl; have hcz8_1 : w7.cell? ⟨gb101, 1, none⟩ = some (.int .i64 a0_1) := (blk_cell BK101.out 1).trans rfl; have hcz8_2 : w7.cell? ⟨gb101, 2, none⟩ = some (.slice A0_2 l0_2.length c0_2) := (blk_cell BK101.out 2).trans rfl; have hfz8_0 := blk_frozen BK101.out 0; have hfz8_1 := blk_frozen BK101.out 1; have hfz8_2 := blk_frozen BK101.out 2) | ((with_reducible refine gate_callee (f := 52) rfl ?_); refine goesL_ (some 8) rfl rfl Try.func52 (by kernel_rfl) rfl #[.slice A0_2 l0_2.length c0_2, .int .i64 a1] rfl (by (try simp only [List.map_toArray, List.map_cons, List.map_nil]); first | done | rfl | (simp only [List.length_drop, List.length_take]; rfl)) ?_; (with_reducible refine (laws_heldRuleS.calls k _ _ l0_2 a1 t102 _ ?side1 ?side2 A3.out).mono ?_); (case side1 => repeat (first | exact (Kd.C_below HR0_2.out HB.out) | (with_reducible refine Kd.C_alloc ?_ _) | (with_reducible refine Kd.C_drewN ?_ _) | (with_reducible refine Kd.C_drew ?_))); (case side2 => exact HC0_2.out); rintro e w' ⟨rfl, ⟨nd, rfl⟩⟩; refine ⟨_, rfl, ?_⟩))
    go_ret
    exact ⟨by first | rfl | (simp [errW_none, errW_some] <;> rfl) | (simp [*, errW_none, errW_some] <;> rfl), by repeat (first | (with_reducible first | exact HB.out | apply below_alloc | apply pw_below_drewN | apply below_drew1 | refine below_set ?_ GE101.out) | exact HB.out)⟩

end Go.Proofs.Ytohbdjdjjbieeaa.P

/-! Mk -/
/- The laws' marks: numbers written into a row of numbers, into a row of rules, into a grammar; and that they are found again. -/
namespace Go.Proofs.Ytohbdjdjjbieeaa.P
open Go.RowKit Go.Proofs.YtohbdjdjjbieeaaW.PrintWords Go.Proofs.YtohbdjdjjbieeaaW.PrintLast Go.Proofs.YtohbdjdjjbieeaaW.PrintMore
set_option linter.unusedVariables false
set_option linter.unusedSimpArgs false

/-- How many numbers a row of rules holds. -/
def szR : List S47 → Nat
  | [] => 0
  | r :: l => 1 + r.f1.length + szR l
/-- The row, marked from a on. -/
def mkR : List S47 → Int → List S47
  | [], _ => []
  | r :: l, a => ⟨a, ramp (a + 1) r.f1.length⟩ :: mkR l (a + 1 + r.f1.length)
theorem mkR_len (l : List S47) : ∀ a, (mkR l a).length = l.length := by
  induction l with
  | nil => intro a; rfl
  | cons r l ih => intro a; simp [mkR, ih]
theorem szR_append (l m : List S47) : szR (l ++ m) = szR l + szR m := by
  induction l with
  | nil => simp [szR]
  | cons r l ih => simp only [List.cons_append, szR, ih]; omega
theorem mkR_append (l m : List S47) : ∀ a, mkR (l ++ m) a = mkR l a ++ mkR m (a + szR l) := by
  induction l with
  | nil => intro a; simp [szR, mkR]
  | cons r l ih => intro a; simp only [List.cons_append, mkR, szR, ih]; congr 3; omega
theorem szR_take (l : List S47) (i : Nat) : szR (l.take i) ≤ szR l := by
  have := szR_append (l.take i) (l.drop i)
  rw [List.take_append_drop] at this
  omega
theorem szR_len (l : List S47) : l.length ≤ szR l := by
  induction l with
  | nil => simp [szR]
  | cons r l ih => simp only [List.length_cons, szR]; omega

theorem szR_small (l : List S47) (hs : ∀ i : Nat, i < l.length → (rd_T47 l i).f1.length ≤ 1048576) : szR l ≤ l.length * 1048577 := by
  induction l with
  | nil => simp [szR]
  | cons r l ih =>
    have h0 := hs 0 (by simp)
    have h1 := ih (fun i hi => by
      have := hs (i + 1) (by simp; omega)
      have e : rd_T47 (r :: l) ((i + 1 : Nat) : Int) = rd_T47 l (i : Int) := by unfold rd_T47; simp
      rw [e] at this; exact this)
    have e0 : (rd_T47 (r :: l) ((0 : Nat) : Int)) = r := by unfold rd_T47; simp
    rw [e0] at h0
    simp only [szR, List.length_cons]
    omega
theorem szR_bound {l : List S47} (hs : smallI l) : (szR l : Int) ≤ 1152921504606846 := by
  have h1 := szR_small l hs.2
  have h2 := hs.1
  have : l.length * 1048577 ≤ 1048576 * 1048577 := Nat.mul_le_mul_right _ h2
  omega

set_option maxHeartbeats 4000000 in
set_option maxRecDepth 100000 in
theorem markRuleS_calls (P0_ : Nat → Prop) (u : Value) (l0 : List S47) (a1 : Int) (w0 w : World) (hB : Below w0.heap.size w0 w) (ho0 : Kd.S k47 47 w w0.heap.size P0_ u l0)
    (ha : 0 ≤ a1) (hs : a1 + szR l0 ≤ 1152921504606846976) :
    Calls Try.prog 44 #[u, .int .i64 a1] w fun e w' => e = .returned (.int .i64 (a1 + szR l0)) ∧ Kd.S k47 47 w' w0.heap.size P0_ u (mkR l0 a1) ∧ Below w0.heap.size w0 w' ∧ Kept w w' P0_ := by
  have HO := Aside0.mk ho0
  have HB := Aside0.mk hB
  have HW := Aside0.mk hB.size
  have hlen := szR_len l0
  have HS := Aside0.mk hs
  clear ho0 hB hs
  go_enter Try.func44, Try.ntmps44
  go_wp2
  go_loopg [1, 5] l0.length (fun gg s1 s5 wr => ∃ kk : Nat, kk ≤ l0.length ∧ l0.length - kk ≤ gg ∧ s5 = .int .i64 kk ∧ s1 = .int .i64 (a1 + szR (l0.take kk)) ∧ Aside0 (Kd.S k47 47 wr w0.heap.size P0_ u (mkR (l0.take kk) a1 ++ l0.drop kk)) ∧ Aside0 (Below w0.heap.size w0 wr) ∧ Aside0 (Kept w wr P0_))
  case atStart => exact ⟨0, Nat.zero_le _, by omega, rfl, by simp [szR], ⟨by simpa [mkR] using HO.out⟩, HB, ⟨Kept.refl _ _⟩⟩
  case round =>
    clear HO HB
    obtain ⟨kk, hkk, hg, rfl, rfl, HO, HB, HK⟩ := hrel
    have hb1 := szR_take l0 kk
    by_cases hlt : kk < l0.length
    · obtain ⟨y, hy⟩ : ∃ y, y = l0.getD kk z47 := ⟨_, rfl⟩
      have ed := getD_drop l0 kk z47 hlt
      have et := take_getD l0 kk z47 hlt
      rw [← hy] at ed et
      have esz : szR (l0.take (kk + 1)) = szR (l0.take kk) + (1 + y.f1.length) := by rw [et, szR_append]; simp [szR]
      have hb2 := szR_take l0 (kk + 1)
      have emk : ∀ z, z = (⟨a1 + szR (l0.take kk), ramp (a1 + szR (l0.take kk) + 1) y.f1.length⟩ : S47) → (mkR (l0.take kk) a1 ++ l0.drop kk).set kk z = mkR (l0.take (kk + 1)) a1 ++ l0.drop (kk + 1) := by
        rintro z rfl
        rw [ed, set_mid _ _ _ _ _ (by rw [mkR_len, List.length_take]; omega), et, mkR_append]
        simp [mkR]
      have elen : (mkR (l0.take kk) a1 ++ l0.drop kk).length = l0.length := by rw [List.length_append, mkR_len, List.length_take, List.length_drop]; omega
      have eget : (mkR (l0.take kk) a1 ++ l0.drop kk).getD kk z47 = y := by
        rw [ed, List.getD_eq_getElem?_getD, List.getElem?_append_right (by rw [mkR_len, List.length_take]; omega), mkR_len, List.length_take, Nat.min_eq_left hkk, Nat.sub_self]; rfl
      have EM := Aside0.mk emk
      have ES := Aside0.mk esz
      have LN := Aside0.mk elen
      clear emk esz ed et hy
      obtain ⟨xs, hxs⟩ : ∃ xs, xs = mkR (l0.take kk) a1 ++ l0.drop kk := ⟨_, rfl⟩
      rw [← hxs] at HO EM LN eget
      obtain ⟨go, co, eo, gb, gl, cl, HG⟩ := Kd.S_form HO.out (by rw [LN.out]; omega)
      subst eo
      obtain ⟨oki, c, hcl, hM, hcc, hfr, hoki, hH⟩ := Kd.S_elem HO.out z47 (kk : Int) (by omega) (by rw [LN.out]; omega)
      rw [Int.toNat_natCast, eget] at hM
      obtain ⟨v1, rfl, hR⟩ := k47_openM hM
      have hx0 : wr.cell? ⟨go, kk * 2, none⟩ = some (.int .i64 y.f0) := hcc 0 _ rfl
      have hx1 : wr.cell? ⟨go, kk * 2 + 1, none⟩ = some v1 := hcc 1 _ rfl
      have hf0 : wr.frozen? ⟨go, kk * 2, none⟩ = false := hfr 0
      have hP : P0_ go := (Kd.S_R HO.out).1 go rfl
      obtain ⟨s, hs⟩ : ∃ s : Int, s = a1 + szR (l0.take kk) := ⟨_, rfl⟩
      rw [← hs] at EM
      rw [← hs]
      have hs0 : 0 ≤ s := by omega
      have hs1 : s ≤ 1152921504606846976 := by have := HS.out; omega
      have hyl : y.f1.length ≤ 1152921504606846976 := by have := HS.out; have := ES.out; omega
      have hs2 : s + 1 ≤ 1152921504606846976 := by have := HS.out; have := ES.out; omega
      have hsz : xs.length = l0.length := LN.out
      have hd : decide (kk < xs.length) = true := decide_eq_true (by omega)
      have hlt2 : kk < xs.length := by omega
      have hmx : xs.length ≤ 9223372036854775807 := by have := HS.out; omega
      have GB := Aside0.mk gb
      have HH := Aside0.mk hH
      have HR := Aside0.mk hR
      have OI := Aside0.mk hoki
      have PG := Aside0.mk hP
      have L := Aside0.mk hlt
      have SV := Aside0.mk hs
      have EMM := EM
      clear hcl hcc hfr hM hH hR hoki hP gb gl HG eget hs hlt hxs EM hsz
      go_wp2_with (go_at_call 20; refine (laws_markIntS.calls (y.f1.length + 1) oki v1 y.f1 (s + 1) _ _ w0 _ (below_set HB.out GB.out) (Kd.R_far HR.out (fun k hk => (OI.out k hk).2) _) (markIntS_eq y.f1 hyl (s + 1) (by omega) hs2 (y.f1.length + 1) (by omega))).mono ?_; rintro e w' ⟨rfl, ho, hb, hk⟩; have NB := Aside0.mk hb; have NO := Aside0.mk ho; have NK := Aside0.mk hk; clear ho hb hk)
      go_roundg (l0.length - (kk + 1))
      case measure => have := L.out; omega
      case rel =>
        refine ⟨kk + 1, by have := L.out; omega, by omega, by go_num, ?_, ?_, NB, ?_⟩
        · rw [ES.out]
          have := SV.out
          congr 1
          omega
        · have H1 := (Kd.H_seg HH.out (by omega) (by omega) (seg := [.int .i64 s]) (j := 0) (show 0 + 1 ≤ 2 by decide) (by intro q hq; rw [List.mem_singleton.1 hq]; rfl)).1
          have H2 := Kd.H_kept H1 NK.out (fun k _ hno hs => hno hs)
          have hR1 := HR.out.1
          have H3 := Kd.H_back H2 (x' := ⟨s, ramp (s + 1) y.f1.length⟩) (k47_mkM _ _ _ (⟨s, ramp (s + 1) y.f1.length⟩ : S47) (Kd.R_mono (Kd.R_tight rfl NO.out) (fun q hq => hR1 q hq.symm))) (fun _ h => h)
          rw [Int.toNat_natCast, EMM.out _ rfl] at H3
          exact ⟨H3⟩
        · exact ⟨(Kept.setCell HK.out (.inl PG.out) _).then_ NK.out (fun k hk => .inl (OI.out k hk).1)⟩
    · have e : kk = l0.length := by omega
      obtain ⟨xs, hxs⟩ : ∃ xs, xs = mkR (l0.take kk) a1 ++ l0.drop kk := ⟨_, rfl⟩
      have hfin : xs = mkR l0 a1 := by rw [hxs, e, List.take_of_length_le (Nat.le_refl _), List.drop_of_length_le (Nat.le_refl _), List.append_nil]
      have hsum : szR (l0.take kk) = szR l0 := by rw [e, List.take_of_length_le (Nat.le_refl _)]
      have hln : xs.length = l0.length := by rw [hfin, mkR_len]
      rw [← hxs] at HO
      obtain ⟨A, c, eu⟩ := Kd.R_slice (Kd.S_R HO.out)
      subst eu
      have hd : decide (kk < xs.length) = false := decide_eq_false (by omega)
      have F := Aside0.mk hfin
      have SU := Aside0.mk hsum
      clear hfin hxs hlt e hln hsum
      go_wp2
      go_ret
      refine ⟨by rw [← SU.out]; rfl, by rw [← F.out]; exact HO.out, HB.out, HK.out⟩

set_option maxHeartbeats 4000000 in
set_option maxRecDepth 100000 in
theorem markGrammar_calls (P0_ : Nat → Prop) (a0 a1 : Int) (u : Value) (l0 : List S47) (k : Int) (w0 w : World) (hB : Below w0.heap.size w0 w) (ho0 : Kd.S k47 47 w w0.heap.size P0_ u l0)
    (ha : 0 ≤ k) (hs : k + szR l0 ≤ 1152921504606846976) :
    Calls Try.prog 19 #[.agg #[.int .i64 a0, .int .i64 a1, u], .int .i64 k] w fun e w' => e = .returned (.int .i64 (k + szR l0)) ∧ Kd.S k47 47 w' w0.heap.size P0_ u (mkR l0 k) ∧ Below w0.heap.size w0 w' ∧ Kept w w' P0_ := by
  obtain ⟨A, c, eu⟩ := Kd.R_slice (Kd.S_R ho0)
  subst eu
  have hu := Try.underlying30
  have HO := Aside0.mk ho0
  have HB := Aside0.mk hB
  have HS := Aside0.mk hs
  have HA := Aside0.mk ha
  clear ho0 hB hs ha
  go_enter Try.func19, Try.ntmps19
  go_wp2_with (go_at_call 44; refine (markRuleS_calls P0_ _ l0 k w0 _ (by repeat (first | exact HB.out | apply below_alloc)) (by repeat (first | exact HO.out | apply Kd.S_alloc)) HA.out HS.out).mono ?_; rintro e w' ⟨rfl, ho, hb, hk⟩; have NB := Aside0.mk hb; have NO := Aside0.mk ho; have NK := Aside0.mk hk; clear ho hb hk)
  go_ret
  exact ⟨rfl, NO.out, NB.out, (Kept.alloc (Kept.refl _ _) _).then_ NK.out (fun q hq => .inl hq)⟩
end Go.Proofs.Ytohbdjdjjbieeaa.P

