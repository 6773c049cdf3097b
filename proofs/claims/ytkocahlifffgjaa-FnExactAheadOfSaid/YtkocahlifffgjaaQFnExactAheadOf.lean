/- Proved: for all arguments AheadOf of the program returns what AheadOf of the reference returns; it leaves its arguments as they were, and shares no memory. No condition. -/
import Derived.Test.YtkocahlifffgjaaK0
import Derived.Test.YtkocahlifffgjaaB1
import Derived.Test.YtkocahlifffgjaaQFnExactAheadOfp1
import Derived.Test.YtkocahlifffgjaaQFnExactAheadOfp0
import Derived.Test.YtkocahlifffgjaaRows
import Derived.WalkKit
import Derived.ProofKit
import Derived.OpenShut
import Derived.ShutString
import Derived.ChangeOld
import Derived.Below
import Derived.SizedLaws
/-! F46 -/
namespace Go.Proofs.Ytkocahlifffgjaa.P
open Go.RowKit Go.Proofs.YtkocahlifffgjaaW.PrintWords Go.Proofs.YtkocahlifffgjaaW.PrintLast Go.Proofs.YtkocahlifffgjaaW.PrintMore
attribute [local go_sem] max2_int min2_int max_two min_two max_three min_three max_four min_four   -- for this text's walks alone
set_option linter.unusedVariables false
set_option linter.unusedSimpArgs false

/-! ### impl_AheadOf: function 46 -/
def impl_AheadOf.f (k : Nat) (l0 : List (S88)) (a1 : Int) (a2 : Int) (a3 : Int) : Option (Bool × Bool) := (impl_areDone.f l0 a1).bind fun t101 => (if t101 = true then ((impl_in.f a2 0 (wrap64 ((l0.length : Int) - 1))).bind fun t102 => (if t102 = true then ((impl_in.f a3 0 (wrap64 ((l0.length : Int) - 1))).bind fun t103 => (if t103 = true then ((impl_isAhead.f k l0 a2 a3).bind fun t104 => (some (t104, true))) else (some (false, false)))) else (some (false, false)))) else (some (false, false)))
theorem impl_AheadOf.mono : ∀ a0 a1 a2 a3 k, LeO (impl_AheadOf.f k a0 a1 a2 a3) (impl_AheadOf.f (k + 1) a0 a1 a2 a3) := by
  intro a0 a1 a2 a3 k
  unfold impl_AheadOf.f
  repeat' first
      | (with_reducible exact impl_isAhead.mono _ _ _ _)
      | (with_reducible exact LeO.refl _)
      | (with_reducible exact LeO.none _)
      | (with_reducible refine LeO.ite ?_ ?_)
      | (with_reducible refine LeO.bind ?_ (fun _ => ?_))
      | exact impl_isAhead.mono _ _ _ _
      | exact LeO.none _
      | refine LeO.ite ?_ ?_
      | refine LeO.bind ?_ (fun _ => ?_)
set_option maxHeartbeats 8000000 in
set_option maxRecDepth 100000 in
theorem impl_AheadOf.calls (k : Nat) (A0 : Option Addr) (c0 : Nat) (l0 : List (S88)) (a1 : Int) (a2 : Int) (a3 : Int) (r1 : Bool) (r2 : Bool) (w : World) (hr0 : Kd.C k88 w A0 l0.length l0) (hc0 : l0.length ≤ c0) (h : impl_AheadOf.f k l0 a1 a2 a3 = some (r1, r2)) :
    Calls Try.prog 46 #[.slice A0 l0.length c0, .int .i64 a1, .int .i64 a2, .int .i64 a3] w fun e w' => e = .returned (.tuple #[.bool r1, .bool r2]) ∧ Below w.heap.size w w' := by
  have HR0 := Aside0.mk hr0
  have HC0 := Aside0.mk hc0
  clear hr0 hc0
  have HB := Aside0.mk (Below.refl w.heap.size w)
  have H : ((impl_areDone.f l0 a1).bind fun t101 => (if t101 = true then ((impl_in.f a2 0 (wrap64 ((l0.length : Int) - 1))).bind fun t102 => (if t102 = true then ((impl_in.f a3 0 (wrap64 ((l0.length : Int) - 1))).bind fun t103 => (if t103 = true then ((impl_isAhead.f k l0 a2 a3).bind fun t104 => (some (t104, true))) else (some (false, false)))) else (some (false, false)))) else (some (false, false)))) = some (r1, r2) := h
  clear h
  replace H := Option.bind_eq_some_iff.mp H
  obtain ⟨t101, A50, H⟩ := H
  replace H : (if t101 = true then ((impl_in.f a2 0 (wrap64 ((l0.length : Int) - 1))).bind fun t102 => (if t102 = true then ((impl_in.f a3 0 (wrap64 ((l0.length : Int) - 1))).bind fun t103 => (if t103 = true then ((impl_isAhead.f k l0 a2 a3).bind fun t104 => (some (t104, true))) else (some (false, false)))) else (some (false, false)))) else (some (false, false))) = some (r1, r2) := H
  have A5 := Aside0.mk A50
  clear A50
  by_cases c6 : t101 = true
  · subst c6
    have H1 : ((impl_in.f a2 0 (wrap64 ((l0.length : Int) - 1))).bind fun t102 => (if t102 = true then ((impl_in.f a3 0 (wrap64 ((l0.length : Int) - 1))).bind fun t103 => (if t103 = true then ((impl_isAhead.f k l0 a2 a3).bind fun t104 => (some (t104, true))) else (some (false, false)))) else (some (false, false)))) = some (r1, r2) := by rw [if_pos rfl] at H; exact H
    clear H
    have H := H1
    clear H1
    replace H := Option.bind_eq_some_iff.mp H
    obtain ⟨t102, A70, H⟩ := H
    replace H : (if t102 = true then ((impl_in.f a3 0 (wrap64 ((l0.length : Int) - 1))).bind fun t103 => (if t103 = true then ((impl_isAhead.f k l0 a2 a3).bind fun t104 => (some (t104, true))) else (some (false, false)))) else (some (false, false))) = some (r1, r2) := H
    have A7 := Aside0.mk A70
    clear A70
    by_cases c8 : t102 = true
    · subst c8
      have H1 : ((impl_in.f a3 0 (wrap64 ((l0.length : Int) - 1))).bind fun t103 => (if t103 = true then ((impl_isAhead.f k l0 a2 a3).bind fun t104 => (some (t104, true))) else (some (false, false)))) = some (r1, r2) := by rw [if_pos rfl] at H; exact H
      clear H
      have H := H1
      clear H1
      replace H := Option.bind_eq_some_iff.mp H
      obtain ⟨t103, A90, H⟩ := H
      replace H : (if t103 = true then ((impl_isAhead.f k l0 a2 a3).bind fun t104 => (some (t104, true))) else (some (false, false))) = some (r1, r2) := H
      have A9 := Aside0.mk A90
      clear A90
      by_cases c10 : t103 = true
      · subst c10
        have H1 : ((impl_isAhead.f k l0 a2 a3).bind fun t104 => (some (t104, true))) = some (r1, r2) := by rw [if_pos rfl] at H; exact H
        clear H
        have H := H1
        clear H1
        replace H := Option.bind_eq_some_iff.mp H
        obtain ⟨t104, A110, H⟩ := H
        replace H : (some (t104, true)) = some (r1, r2) := H
        have A11 := Aside0.mk A110
        clear A110
        simp only [Option.some.injEq, Prod.mk.injEq] at H
        obtain ⟨rfl, rfl⟩ := H
        go_enter Try.func46, Try.ntmps46
        go_wp2_with (first | ((with_reducible refine gate_callee (f := 84) rfl ?_); refine goesL_ (some 12) rfl rfl Try.func84 (by kernel_rfl) rfl #[.slice A0 l0.length c0, .int .i64 a1] rfl (by (try simp only [List.map_toArray, List.map_cons, List.map_nil]); first | done | rfl | (simp only [List.length_drop, List.length_take]; rfl)) ?_; (with_reducible refine (impl_areDone.calls _ _ l0 a1 true _ ?side1 ?side2 A5.out).mono ?_); (case side1 => repeat (first | exact HR0.out | (with_reducible refine Kd.C_alloc ?_ _) | (with_reducible refine Kd.C_drewN ?_ _) | (with_reducible refine Kd.C_drew ?_))); (case side2 => exact HC0.out); rintro e w12 ⟨rfl, hb⟩; refine ⟨_, rfl, ?_⟩; have n0_ := Aside0.mk (below_step (by repeat (first | (with_reducible first | exact HB.out | apply below_alloc | apply pw_below_drewN | apply below_drew1) | exact HB.out)) hb); clear HB; have HB := n0_; clear n0_; (try clear hb); (try clear hb2); (try clear hk); (try clear hi)) | (go_at_call 85; (with_reducible refine (impl_in.calls a2 0 (wrap64 ((l0.length : Int) - 1)) true _ A7.out).mono ?_); rintro e w' ⟨rfl, ⟨nd, rfl⟩⟩) | (go_at_call 85; (with_reducible refine (impl_in.calls a3 0 (wrap64 ((l0.length : Int) - 1)) true _ A9.out).mono ?_); rintro e w' ⟨rfl, ⟨nd, rfl⟩⟩) | ((with_reducible refine gate_callee (f := 86) rfl ?_); refine goesL_ (some 33) rfl rfl Try.func86 (by kernel_rfl) rfl #[.slice A0 l0.length c0, .int .i64 a2, .int .i64 a3] rfl (by (try simp only [List.map_toArray, List.map_cons, List.map_nil]); first | done | rfl | (simp only [List.length_drop, List.length_take]; rfl)) ?_; (with_reducible refine (impl_isAhead.calls k _ _ l0 a2 a3 t104 _ ?side1 ?side2 A11.out).mono ?_); (case side1 => repeat (first | exact (Kd.C_below HR0.out (by repeat (first | (with_reducible first | exact HB.out | apply below_alloc | apply pw_below_drewN | apply below_drew1) | exact HB.out))) | (with_reducible refine Kd.C_alloc ?_ _) | (with_reducible refine Kd.C_drewN ?_ _) | (with_reducible refine Kd.C_drew ?_))); (case side2 => exact HC0.out); rintro e w13 ⟨rfl, hb⟩; refine ⟨_, rfl, ?_⟩; have n0_ := Aside0.mk (below_step (by repeat (first | (with_reducible first | exact HB.out | apply below_alloc | apply pw_below_drewN | apply below_drew1) | exact HB.out)) hb); clear HB; have HB := n0_; clear n0_; (try clear hb); (try clear hb2); (try clear hk); (try clear hi)))
        go_ret2
        exact ⟨by first | rfl | (simp [errW_none, errW_some] <;> rfl) | (simp [*, errW_none, errW_some] <;> rfl), by repeat (first | (with_reducible first | exact HB.out | apply below_alloc | apply pw_below_drewN | apply below_drew1) | exact HB.out)⟩
      · replace c10 := Bool.eq_false_iff.mpr c10
        subst c10
        have H1 : (some (false, false)) = some (r1, r2) := by rw [if_neg (show ¬ (false = true) by decide)] at H; exact H
        clear H
        have H := H1
        clear H1
        simp only [Option.some.injEq, Prod.mk.injEq] at H
        obtain ⟨rfl, rfl⟩ := H
        go_enter Try.func46, Try.ntmps46
        go_wp2_with (first | ((with_reducible refine gate_callee (f := 84) rfl ?_); refine goesL_ (some 12) rfl rfl Try.func84 (by kernel_rfl) rfl #[.slice A0 l0.length c0, .int .i64 a1] rfl (by (try simp only [List.map_toArray, List.map_cons, List.map_nil]); first | done | rfl | (simp only [List.length_drop, List.length_take]; rfl)) ?_; (with_reducible refine (impl_areDone.calls _ _ l0 a1 true _ ?side1 ?side2 A5.out).mono ?_); (case side1 => repeat (first | exact HR0.out | (with_reducible refine Kd.C_alloc ?_ _) | (with_reducible refine Kd.C_drewN ?_ _) | (with_reducible refine Kd.C_drew ?_))); (case side2 => exact HC0.out); rintro e w14 ⟨rfl, hb⟩; refine ⟨_, rfl, ?_⟩; have n0_ := Aside0.mk (below_step (by repeat (first | (with_reducible first | exact HB.out | apply below_alloc | apply pw_below_drewN | apply below_drew1) | exact HB.out)) hb); clear HB; have HB := n0_; clear n0_; (try clear hb); (try clear hb2); (try clear hk); (try clear hi)) | (go_at_call 85; (with_reducible refine (impl_in.calls a2 0 (wrap64 ((l0.length : Int) - 1)) true _ A7.out).mono ?_); rintro e w' ⟨rfl, ⟨nd, rfl⟩⟩) | (go_at_call 85; (with_reducible refine (impl_in.calls a3 0 (wrap64 ((l0.length : Int) - 1)) false _ A9.out).mono ?_); rintro e w' ⟨rfl, ⟨nd, rfl⟩⟩))
        go_ret2
        exact ⟨by first | rfl | (simp [errW_none, errW_some] <;> rfl) | (simp [*, errW_none, errW_some] <;> rfl), by repeat (first | (with_reducible first | exact HB.out | apply below_alloc | apply pw_below_drewN | apply below_drew1) | exact HB.out)⟩
    · replace c8 := Bool.eq_false_iff.mpr c8
      subst c8
      have H1 : (some (false, false)) = some (r1, r2) := by rw [if_neg (show ¬ (false = true) by decide)] at H; exact H
      clear H
      have H := H1
      clear H1
      simp only [Option.some.injEq, Prod.mk.injEq] at H
      obtain ⟨rfl, rfl⟩ := H
      go_enter Try.func46, Try.ntmps46
      go_wp2_with (first | ((with_reducible refine gate_callee (f := 84) rfl ?_); refine goesL_ (some 12) rfl rfl Try.func84 (by kernel_rfl) rfl #[.slice A0 l0.length c0, .int .i64 a1] rfl (by (try simp only [List.map_toArray, List.map_cons, List.map_nil]); first | done | rfl | (simp only [List.length_drop, List.length_take]; rfl)) ?_; (with_reducible refine (impl_areDone.calls _ _ l0 a1 true _ ?side1 ?side2 A5.out).mono ?_); (case side1 => repeat (first | exact HR0.out | (with_reducible refine Kd.C_alloc ?_ _) | (with_reducible refine Kd.C_drewN ?_ _) | (with_reducible refine Kd.C_drew ?_))); (case side2 => exact HC0.out); rintro e w15 ⟨rfl, hb⟩; refine ⟨_, rfl, ?_⟩; have n0_ := Aside0.mk (below_step (by repeat (first | (with_reducible first | exact HB.out | apply below_alloc | apply pw_below_drewN | apply below_drew1) | exact HB.out)) hb); clear HB; have HB := n0_; clear n0_; (try clear hb); (try clear hb2); (try clear hk); (try clear hi)) | (go_at_call 85; (with_reducible refine (impl_in.calls a2 0 (wrap64 ((l0.length : Int) - 1)) false _ A7.out).mono ?_); rintro e w' ⟨rfl, ⟨nd, rfl⟩⟩))
      go_ret2
      exact ⟨by first | rfl | (simp [errW_none, errW_some] <;> rfl) | (simp [*, errW_none, errW_some] <;> rfl), by repeat (first | (with_reducible first | exact HB.out | apply below_alloc | apply pw_below_drewN | apply below_drew1) | exact HB.out)⟩
  · replace c6 := Bool.eq_false_iff.mpr c6
    subst c6
    have H1 : (some (false, false)) = some (r1, r2) := by rw [if_neg (show ¬ (false = true) by decide)] at H; exact H
    clear H
    have H := H1
    clear H1
    simp only [Option.some.injEq, Prod.mk.injEq] at H
    obtain ⟨rfl, rfl⟩ := H
    go_enter Try.func46, Try.ntmps46
    go_wp2_with (first | ((with_reducible refine gate_callee (f := 84) rfl ?_); refine goesL_ (some 12) rfl rfl Try.func84 (by kernel_rfl) rfl #[.slice A0 l0.length c0, .int .i64 a1] rfl (by (try simp only [List.map_toArray, List.map_cons, List.map_nil]); first | done | rfl | (simp only [List.length_drop, List.length_take]; rfl)) ?_; (with_reducible refine (impl_areDone.calls _ _ l0 a1 false _ ?side1 ?side2 A5.out).mono ?_); (case side1 => repeat (first | exact HR0.out | (with_reducible refine Kd.C_alloc ?_ _) | (with_reducible refine Kd.C_drewN ?_ _) | (with_reducible refine Kd.C_drew ?_))); (case side2 => exact HC0.out); rintro e w16 ⟨rfl, hb⟩; refine ⟨_, rfl, ?_⟩; have n0_ := Aside0.mk (below_step (by repeat (first | (with_reducible first | exact HB.out | apply below_alloc | apply pw_below_drewN | apply below_drew1) | exact HB.out)) hb); clear HB; have HB := n0_; clear n0_; (try clear hb); (try clear hb2); (try clear hk); (try clear hi)))
    go_ret2
    exact ⟨by first | rfl | (simp [errW_none, errW_some] <;> rfl) | (simp [*, errW_none, errW_some] <;> rfl), by repeat (first | (with_reducible first | exact HB.out | apply below_alloc | apply pw_below_drewN | apply below_drew1) | exact HB.out)⟩

end Go.Proofs.Ytkocahlifffgjaa.P

/-! Pdone -/
/- Plain lists: rows of steps; AheadOf of the reference and of the program answer the same. -/
namespace Go.Proofs.Ytkocahlifffgjaa.P
open Go.RowKit Go.Proofs.YtkocahlifffgjaaW.PrintWords
set_option linter.unusedVariables false
set_option linter.unusedSimpArgs false

def convD (x : S90) : S88 := ⟨x.f0, x.f1, x.f2, x.f3⟩
def convDs (l : List S90) : List S88 := l.map convD
theorem convDs_len (l : List S90) : (convDs l).length = l.length := List.length_map ..
theorem toDoneS_loop (l : List S90) (hl : l.length ≤ 1048576) (d : Nat) : ∀ (k i : Nat), i ≤ l.length → l.length - i = d → d < k →
    laws_toDoneS.l0 k l (convDs (l.take i) ++ List.replicate d z88) i = some (convDs l) := by
  induction d with
  | zero =>
    intro k i h1 hd hk
    obtain ⟨k, rfl⟩ : ∃ m, k = m + 1 := ⟨k - 1, by omega⟩
    simp only [laws_toDoneS.l0]; rw [if_neg (by omega)]
    rw [List.take_of_length_le (by omega)]; simp
  | succ d ih =>
    intro k i h1 hd hk
    obtain ⟨k, rfl⟩ : ∃ m, k = m + 1 := ⟨k - 1, by omega⟩
    simp only [laws_toDoneS.l0]
    rw [if_pos (by omega), if_pos (by omega)]
    simp only [laws_toDone.f, Option.bind_some]
    rw [if_pos (by simp [convDs]; omega)]
    have e1 : wrap64 ((i : Int) + 1) = ((i + 1 : Nat) : Int) := by unfold wrap64; omega
    have e2 : (convDs (l.take i) ++ List.replicate (d + 1) z88).set (i : Int).toNat ⟨(rd_T90 l i).f0, (rd_T90 l i).f1, (rd_T90 l i).f2, (rd_T90 l i).f3⟩ = convDs (l.take (i + 1)) ++ List.replicate d z88 := by
      rw [rep_succ, Int.toNat_natCast, set_mid _ _ _ _ _ (by rw [convDs_len, List.length_take]; omega), take_getD l i z90 (by omega)]
      simp [convDs, convD, rd_T90]
    rw [e1, e2]
    exact ih k (i + 1) (by omega) (by omega) (by omega)
theorem toDoneS_eq (l : List S90) (hl : l.length ≤ 1048576) (k : Nat) (hk : l.length < k) : laws_toDoneS.f k l = some (convDs l) := by
  unfold laws_toDoneS.f
  rw [if_pos (by omega), if_pos (by omega), Int.toNat_natCast]
  have := toDoneS_loop l hl l.length k 0 (by omega) (by omega) hk
  simpa [convDs] using this
theorem eqDoneS_loop (l : List S88) (hl : l.length ≤ 1048576) (d : Nat) : ∀ (k i : Nat), i ≤ l.length → l.length - i = d → d < k → laws_eqDoneS.l0 k l l i = some true := by
  induction d with
  | zero =>
    intro k i h1 hd hk
    obtain ⟨k, rfl⟩ : ∃ m, k = m + 1 := ⟨k - 1, by omega⟩
    simp only [laws_eqDoneS.l0]; rw [if_neg (by omega)]
  | succ d ih =>
    intro k i h1 hd hk
    obtain ⟨k, rfl⟩ : ∃ m, k = m + 1 := ⟨k - 1, by omega⟩
    simp only [laws_eqDoneS.l0]
    rw [if_pos (by omega), if_pos (by omega), if_pos (by omega)]
    simp only [laws_eqDone.f, if_true, Option.bind_some]
    rw [show wrap64 ((i : Int) + 1) = ((i + 1 : Nat) : Int) by unfold wrap64; omega]
    exact ih k (i + 1) (by omega) (by omega) (by omega)
theorem eqDoneS_eq (l : List S88) (hl : l.length ≤ 1048576) (k : Nat) (hk : l.length < k) : laws_eqDoneS.f k l l = some true := by
  unfold laws_eqDoneS.f
  rw [if_pos rfl]
  exact eqDoneS_loop l hl l.length k 0 (by omega) (by omega) hk
theorem l1In_eq (a b c : Int) : spec_l1In.f a b c = some (decide (b ≤ a ∧ a ≤ c)) := by
  unfold spec_l1In.f
  by_cases h1 : b ≤ a <;> by_cases h2 : a ≤ c <;> simp [h1, h2] <;> omega
theorem l8Log_loop (l : List S88) (hl : l.length ≤ 1048576) (a1 : Int) (d : Nat) : ∀ (k i : Nat), i ≤ l.length → l.length - i = d → d < k →
    spec_l8Log.l0 k l a1 l l.length i = some ((l.drop i).all (doneB a1) && (decide (1 ≤ a1 ∧ a1 ≤ 4) && decide (l.length ≤ 200))) := by
  induction d with
  | zero =>
    intro k i h1 hd hk
    obtain ⟨k, rfl⟩ : ∃ m, k = m + 1 := ⟨k - 1, by omega⟩
    simp only [spec_l8Log.l0]
    rw [if_neg (by omega), List.drop_of_length_le (by omega), l1In_eq]
    simp only [Option.bind_some, List.all_nil, Bool.true_and]
    cases hv : decide (1 ≤ a1 ∧ a1 ≤ 4) with
    | true =>
      rw [if_pos rfl]
      congr 1
      rw [Bool.true_and]
      exact decide_eq_decide.2 (by omega)
    | false => rw [if_neg (by decide), Bool.false_and]
  | succ d ih =>
    intro k i h1 hd hk
    have hi : i < l.length := by omega
    obtain ⟨k, rfl⟩ : ∃ m, k = m + 1 := ⟨k - 1, by omega⟩
    have hdi : l.drop i = rd_T88 l i :: l.drop (i + 1) := getD_drop l i z88 hi
    have ew : wrap64 ((i : Int) + 1) = ((i + 1 : Nat) : Int) := by unfold wrap64; omega
    have hn := ih k (i + 1) (by omega) (by omega) (by omega)
    simp only [spec_l8Log.l0]
    rw [if_pos (Int.ofNat_lt.mpr hi), if_pos (Int.natCast_nonneg i), if_pos (Int.ofNat_lt.mpr hi), ew, hdi, hn, List.all_cons]
    simp only [l1In_eq, Option.bind_some]
    unfold doneB
    generalize rd_T88 l i = y
    clear hdi ew hn
    cases decide (0 ≤ y.f0 ∧ y.f0 ≤ wrap64 (a1 - 1)) <;> cases decide (1 ≤ y.f1 ∧ y.f1 ≤ 2) <;> cases decide (0 ≤ y.f2 ∧ y.f2 ≤ 10) <;> cases decide (0 ≤ y.f3 ∧ y.f3 ≤ 10) <;> simp
theorem l8Log_eq (l : List S88) (hl : l.length ≤ 1048576) (a1 : Int) (k : Nat) (hk : l.length < k) : spec_l8Log.f k l a1 = impl_areDone.f l a1 := by
  unfold spec_l8Log.f impl_areDone.f
  have h := l8Log_loop l hl a1 l.length k 0 (by omega) (by omega) hk
  rw [show ((0 : Nat) : Int) = 0 from rfl] at h
  rw [h, List.drop_zero]
  congr 1
  have e : (!l.any fun x => !doneB a1 x) = l.all (doneB a1) := by rw [List.not_any_eq_all_not]; congr 1; funext x; simp
  rw [e]
  cases l.all (doneB a1) <;> cases decide (1 ≤ a1 ∧ a1 ≤ 4) <;> cases decide (l.length ≤ 200) <;> rfl
/-- How many waits of a hand lie ahead. -/
def waitsF (h : Int) : List S88 → Nat
  | [] => 0
  | y :: l => (if y.f0 = h ∧ y.f1 = 2 then 1 else 0) + waitsF h l
theorem waitsF_cons (h : Int) (y : S88) (l : List S88) : waitsF h (y :: l) = (if y.f0 = h ∧ y.f1 = 2 then 1 else 0) + waitsF h l := rfl
theorem waitsF_le (h : Int) : ∀ l, waitsF h l ≤ l.length
  | [] => Nat.le_refl _
  | y :: l => by
    have := waitsF_le h l
    unfold waitsF
    split <;> simp <;> omega
theorem implWaits_loop (x0 : List S88) (a : Nat) (ha : a < x0.length) (t : List S88) (ht : t.length ≤ 1048576) (d : Nat) : ∀ (k i m : Nat), i ≤ t.length → t.length - i = d → d < k → m ≤ i →
    impl_waitsAhead.l0 k x0 a m t t.length i = some ((m + waitsF (rd_T88 x0 a).f0 (t.drop i) : Nat) : Int) := by
  induction d with
  | zero =>
    intro k i m h1 hd hk hm
    obtain ⟨k, rfl⟩ : ∃ m, k = m + 1 := ⟨k - 1, by omega⟩
    simp only [impl_waitsAhead.l0]
    rw [if_neg (by omega), List.drop_of_length_le (by omega)]
    simp [waitsF]
  | succ d ih =>
    intro k i m h1 hd hk hm
    have hi : i < t.length := by omega
    obtain ⟨k, rfl⟩ : ∃ m, k = m + 1 := ⟨k - 1, by omega⟩
    have hdi : t.drop i = rd_T88 t i :: t.drop (i + 1) := getD_drop t i z88 hi
    have ew : wrap64 ((i : Int) + 1) = ((i + 1 : Nat) : Int) := by unfold wrap64; omega
    have em : wrap64 ((m : Int) + 1) = ((m + 1 : Nat) : Int) := by unfold wrap64; omega
    have n1 := ih k (i + 1) (m + 1) (by omega) (by omega) (by omega) (by omega)
    have n0 := ih k (i + 1) m (by omega) (by omega) (by omega) (by omega)
    simp only [impl_waitsAhead.l0]
    rw [if_pos (Int.ofNat_lt.mpr hi), if_pos (Int.natCast_nonneg i), if_pos (Int.ofNat_lt.mpr hi), if_pos (Int.natCast_nonneg a), if_pos (Int.ofNat_lt.mpr ha), ew, em, n0, n1, hdi]
    rw [waitsF_cons]
    generalize rd_T88 t i = y
    by_cases h1 : y.f1 = 2
    · by_cases h2 : y.f0 = (rd_T88 x0 a).f0
      · rw [if_pos h1, if_pos h2, if_pos ⟨h2, h1⟩]; exact congrArg (fun n : Nat => some (n : Int)) (by omega)
      · rw [if_pos h1, if_neg h2, if_neg (fun h => h2 h.1)]; exact congrArg (fun n : Nat => some (n : Int)) (by omega)
    · rw [if_neg h1, if_neg (fun h => h1 h.2)]; exact congrArg (fun n : Nat => some (n : Int)) (by omega)
theorem specWaits_loop (h : Int) (t : List S88) (ht : t.length ≤ 1048576) (d : Nat) : ∀ (k i m : Nat), i ≤ t.length → t.length - i = d → d < k → m ≤ i →
    spec_l8Waits.l0 k h m t t.length i = some ((m + waitsF h (t.drop i) : Nat) : Int) := by
  induction d with
  | zero =>
    intro k i m h1 hd hk hm
    obtain ⟨k, rfl⟩ : ∃ m, k = m + 1 := ⟨k - 1, by omega⟩
    simp only [spec_l8Waits.l0]
    rw [if_neg (by omega), List.drop_of_length_le (by omega)]
    simp [waitsF]
  | succ d ih =>
    intro k i m h1 hd hk hm
    have hi : i < t.length := by omega
    obtain ⟨k, rfl⟩ : ∃ m, k = m + 1 := ⟨k - 1, by omega⟩
    have hdi : t.drop i = rd_T88 t i :: t.drop (i + 1) := getD_drop t i z88 hi
    have ew : wrap64 ((i : Int) + 1) = ((i + 1 : Nat) : Int) := by unfold wrap64; omega
    have em : wrap64 ((m : Int) + 1) = ((m + 1 : Nat) : Int) := by unfold wrap64; omega
    have n1 := ih k (i + 1) (m + 1) (by omega) (by omega) (by omega) (by omega)
    have n0 := ih k (i + 1) m (by omega) (by omega) (by omega) (by omega)
    simp only [spec_l8Waits.l0]
    rw [if_pos (Int.ofNat_lt.mpr hi), if_pos (Int.natCast_nonneg i), if_pos (Int.ofNat_lt.mpr hi), ew, em, n0, n1, hdi]
    rw [waitsF_cons]
    generalize rd_T88 t i = y
    by_cases h2 : y.f0 = h
    · by_cases h1 : y.f1 = 2
      · rw [if_pos h2, if_pos h1, if_pos ⟨h2, h1⟩]; exact congrArg (fun n : Nat => some (n : Int)) (by omega)
      · rw [if_pos h2, if_neg h1, if_neg (fun h => h1 h.2)]; exact congrArg (fun n : Nat => some (n : Int)) (by omega)
    · rw [if_neg h2, if_neg (fun h => h2 h.1)]; exact congrArg (fun n : Nat => some (n : Int)) (by omega)
theorem ahead_same (l : List S88) (hl : l.length ≤ 1048576) (i j : Nat) (hi : i < l.length) (hj : j < l.length) (k : Nat) (hk : l.length < k) : ∃ b, spec_l8Ahead.f k l i j = some b ∧ impl_isAhead.f k l i j = some b := by
  by_cases hij : i < j
  · by_cases hh : (rd_T88 l i).f0 = (rd_T88 l j).f0
    · refine ⟨true, ?_, ?_⟩
      · unfold spec_l8Ahead.f
        rw [if_neg (by omega), if_pos (by omega), if_pos (by omega), if_pos (by omega), if_pos (by omega), if_pos hh]
      · unfold impl_isAhead.f
        rw [if_pos (by omega), if_pos (by omega), if_pos (by omega), if_pos (by omega), if_pos (by omega), if_pos hh]
    · have hli : (l.take i).length = i := by rw [List.length_take]; omega
      have hlj : (l.take j).length = j := by rw [List.length_take]; omega
      have s1 := fun h => specWaits_loop h (l.take j) (by omega) j k 0 0 (by omega) (by omega) (by omega) (by omega)
      have s2 := fun h => specWaits_loop h (l.take i) (by omega) i k 0 0 (by omega) (by omega) (by omega) (by omega)
      have p1 := implWaits_loop l j hj (l.take j) (by omega) j k 0 0 (by omega) (by omega) (by omega) (by omega)
      have p2 := implWaits_loop l i hi (l.take i) (by omega) i k 0 0 (by omega) (by omega) (by omega) (by omega)
      simp only [List.drop_zero, Nat.zero_add, Int.natCast_zero] at s1 s2 p1 p2
      have b1 := waitsF_le (rd_T88 l i).f0 (l.take i)
      refine ⟨decide ((waitsF (rd_T88 l j).f0 (l.take j) : Int) > (waitsF (rd_T88 l i).f0 (l.take i) : Int)), ?_, ?_⟩
      · unfold spec_l8Ahead.f spec_l8Waits.f
        rw [if_neg (by omega), if_pos (by omega), if_pos (by omega), if_pos (by omega), if_pos (by omega), if_neg hh, if_pos (by omega), if_pos (by omega), if_pos (by omega), if_pos (by omega)]
        simp only [Option.bind_some, Int.toNat_natCast]
        rw [s1, s2]
        simp only [Option.bind_some]
        congr 1
        rw [show wrap64 ((waitsF (rd_T88 l i).f0 (l.take i) : Int) + 1) = ((waitsF (rd_T88 l i).f0 (l.take i) + 1 : Nat) : Int) by unfold wrap64; omega]
        exact decide_eq_decide.2 (by omega)
      · unfold impl_isAhead.f impl_waitsAhead.f
        rw [if_pos (by omega), if_pos (by omega), if_pos (by omega), if_pos (by omega), if_pos (by omega), if_neg hh, if_pos (by omega), if_pos (by omega), if_pos (by omega), if_pos (by omega)]
        simp only [Option.bind_some, Int.toNat_natCast]
        rw [p1, p2]
        simp only [Option.bind_some]
  · refine ⟨false, ?_, ?_⟩
    · unfold spec_l8Ahead.f
      rw [if_pos (by omega)]
    · unfold impl_isAhead.f
      rw [if_neg (by omega)]
theorem pure_AheadOf (l : List S88) (hl : l.length ≤ 1048576) (a1 a2 a3 : Int) (k : Nat) (hk : l.length < k) : ∃ r, spec_AheadOf.f k l a1 a2 a3 = some r ∧ impl_AheadOf.f k l a1 a2 a3 = some r := by
  unfold spec_AheadOf.f impl_AheadOf.f
  rw [l8Log_eq l hl a1 k hk]
  have hw : wrap64 ((l.length : Int) - 1) = (l.length : Int) - 1 := w64 (by omega) (by omega)
  obtain ⟨b, hb⟩ : ∃ b, impl_areDone.f l a1 = some b := ⟨_, rfl⟩
  rw [hb, hw]
  simp only [Option.bind_some, l1In_eq, impl_in_eq]
  cases b with
  | false => exact ⟨(false, false), rfl, rfl⟩
  | true =>
    rw [if_pos rfl, if_pos rfl]
    by_cases h2 : 0 ≤ a2 ∧ a2 ≤ (l.length : Int) - 1
    · rw [decide_eq_true h2, if_pos rfl, if_pos rfl]
      by_cases h3 : 0 ≤ a3 ∧ a3 ≤ (l.length : Int) - 1
      · rw [decide_eq_true h3, if_pos rfl, if_pos rfl]
        obtain ⟨i, rfl⟩ : ∃ i : Nat, a2 = i := ⟨a2.toNat, by omega⟩
        obtain ⟨j, rfl⟩ : ∃ j : Nat, a3 = j := ⟨a3.toNat, by omega⟩
        obtain ⟨c, e1, e2⟩ := ahead_same l hl i j (by omega) (by omega) k hk
        rw [e1, e2]
        exact ⟨(c, true), rfl, rfl⟩
      · rw [decide_eq_false h3, if_neg (by decide), if_neg (by decide)]
        exact ⟨(false, false), rfl, rfl⟩
    · rw [decide_eq_false h2, if_neg (by decide), if_neg (by decide)]
      exact ⟨(false, false), rfl, rfl⟩
end Go.Proofs.Ytkocahlifffgjaa.P

/-! F11 -/
namespace Go.Proofs.Ytkocahlifffgjaa.P
open Go.RowKit Go.Proofs.YtkocahlifffgjaaW.PrintWords Go.Proofs.YtkocahlifffgjaaW.PrintLast Go.Proofs.YtkocahlifffgjaaW.PrintMore
attribute [local go_sem] max2_int min2_int max_two min_two max_three min_three max_four min_four   -- for this text's walks alone
set_option linter.unusedVariables false
set_option linter.unusedSimpArgs false

/-! ### laws_FnExactAheadOf: function 11 -/
def laws_FnExactAheadOf.j0 : Nat → List (S90) → List (S88) → Bool → Option (Bool)
  | 0, _, _, _ => none
  | k + 1, x0, x12, x46 => if x46 = true then (some false) else ((laws_toDoneS.f k x0).bind fun t112 => ((laws_eqDoneS.f k x12 t112).bind fun t115 => (if t115 = true then (some true) else (some false))))
def laws_FnExactAheadOf.f (k : Nat) (l0 : List (S90)) (a1 : Int) (a2 : Int) (a3 : Int) : Option (Bool) := (laws_szDoneS.f l0 1048576).bind fun t101 => (if t101 < 0 then (some true) else ((laws_toDoneS.f k l0).bind fun t102 => ((spec_AheadOf.f k t102 a1 a2 a3).bind fun bt105 => ((laws_toDoneS.f k l0).bind fun t107 => ((impl_AheadOf.f k t107 a1 a2 a3).bind fun bt110 => (if (bt110.1 != bt105.1) = true then (laws_FnExactAheadOf.j0 k l0 t107 true) else (laws_FnExactAheadOf.j0 k l0 t107 (bt110.2 != bt105.2))))))))
theorem laws_FnExactAheadOf.mono_l : ∀ k, (∀ y0 y1 y2, LeO (laws_FnExactAheadOf.j0 k y0 y1 y2) (laws_FnExactAheadOf.j0 (k + 1) y0 y1 y2))
  | 0 => fun _ _ _ r h => by simp [laws_FnExactAheadOf.j0] at h
  | k + 1 => by
    have ih0 := laws_FnExactAheadOf.mono_l k
    · intro y0 y1 y2
      unfold laws_FnExactAheadOf.j0
      repeat' first
      | (with_reducible exact ih0 _ _ _)
      | (with_reducible exact impl_AheadOf.mono _ _ _ _ _)
      | (with_reducible exact laws_eqDoneS.mono _ _ _)
      | (with_reducible exact laws_toDoneS.mono _ _)
      | (with_reducible exact spec_AheadOf.mono _ _ _ _ _)
      | (with_reducible exact LeO.refl _)
      | (with_reducible exact LeO.none _)
      | (with_reducible refine LeO.ite ?_ ?_)
      | (with_reducible refine LeO.bind ?_ (fun _ => ?_))
      | exact ih0 _ _ _
      | exact impl_AheadOf.mono _ _ _ _ _
      | exact laws_eqDoneS.mono _ _ _
      | exact laws_toDoneS.mono _ _
      | exact spec_AheadOf.mono _ _ _ _ _
      | exact LeO.none _
      | refine LeO.ite ?_ ?_
      | refine LeO.bind ?_ (fun _ => ?_)
theorem laws_FnExactAheadOf.mono : ∀ a0 a1 a2 a3 k, LeO (laws_FnExactAheadOf.f k a0 a1 a2 a3) (laws_FnExactAheadOf.f (k + 1) a0 a1 a2 a3) := by
  intro a0 a1 a2 a3 k
  have ih0 := laws_FnExactAheadOf.mono_l k
  unfold laws_FnExactAheadOf.f
  repeat' first
      | (with_reducible exact ih0 _ _ _)
      | (with_reducible exact impl_AheadOf.mono _ _ _ _ _)
      | (with_reducible exact laws_eqDoneS.mono _ _ _)
      | (with_reducible exact laws_toDoneS.mono _ _)
      | (with_reducible exact spec_AheadOf.mono _ _ _ _ _)
      | (with_reducible exact LeO.refl _)
      | (with_reducible exact LeO.none _)
      | (with_reducible refine LeO.ite ?_ ?_)
      | (with_reducible refine LeO.bind ?_ (fun _ => ?_))
      | exact ih0 _ _ _
      | exact impl_AheadOf.mono _ _ _ _ _
      | exact laws_eqDoneS.mono _ _ _
      | exact laws_toDoneS.mono _ _
      | exact spec_AheadOf.mono _ _ _ _ _
      | exact LeO.none _
      | refine LeO.ite ?_ ?_
      | refine LeO.bind ?_ (fun _ => ?_)
set_option maxHeartbeats 8000000 in
set_option maxRecDepth 100000 in
theorem laws_FnExactAheadOf.calls (k : Nat) (A0 : Option Addr) (c0 : Nat) (l0 : List (S90)) (a1 : Int) (a2 : Int) (a3 : Int) (r : Bool) (w : World) (hr0 : Kd.C k90 w A0 l0.length l0) (hc0 : l0.length ≤ c0) (h : laws_FnExactAheadOf.f k l0 a1 a2 a3 = some r) :
    Calls Try.prog 11 #[.slice A0 l0.length c0, .int .i64 a1, .int .i64 a2, .int .i64 a3] w fun e w' => e = .returned (.bool r) ∧ Below w.heap.size w w' := by
  have HR0 := Aside0.mk hr0
  have HC0 := Aside0.mk hc0
  clear hr0 hc0
  have HB := Aside0.mk (Below.refl w.heap.size w)
  have H : ((laws_szDoneS.f l0 1048576).bind fun t101 => (if t101 < 0 then (some true) else ((laws_toDoneS.f k l0).bind fun t102 => ((spec_AheadOf.f k t102 a1 a2 a3).bind fun bt105 => ((laws_toDoneS.f k l0).bind fun t107 => ((impl_AheadOf.f k t107 a1 a2 a3).bind fun bt110 => (if (bt110.1 != bt105.1) = true then (laws_FnExactAheadOf.j0 k l0 t107 true) else (laws_FnExactAheadOf.j0 k l0 t107 (bt110.2 != bt105.2))))))))) = some r := h
  clear h
  replace H := Option.bind_eq_some_iff.mp H
  obtain ⟨t101, A50, H⟩ := H
  replace H : (if t101 < 0 then (some true) else ((laws_toDoneS.f k l0).bind fun t102 => ((spec_AheadOf.f k t102 a1 a2 a3).bind fun bt105 => ((laws_toDoneS.f k l0).bind fun t107 => ((impl_AheadOf.f k t107 a1 a2 a3).bind fun bt110 => (if (bt110.1 != bt105.1) = true then (laws_FnExactAheadOf.j0 k l0 t107 true) else (laws_FnExactAheadOf.j0 k l0 t107 (bt110.2 != bt105.2)))))))) = some r := H
  have A5 := Aside0.mk A50
  clear A50
  by_cases c6 : t101 < 0
  · rw [if_pos c6] at H
    have c6b0 : decide (t101 < 0) = true := decide_eq_true c6
    clear c6
    obtain rfl := Option.some.inj H
    go_enter Try.func11, Try.ntmps11
    go_wp2_with (first | ((with_reducible refine gate_callee (f := 43) rfl ?_); refine goesL_ (some 17) rfl rfl Try.func43 (by kernel_rfl) rfl #[.slice A0 l0.length c0, .int .i64 1048576] rfl (by (try simp only [List.map_toArray, List.map_cons, List.map_nil]); first | done | rfl | (simp only [List.length_drop, List.length_take]; rfl)) ?_; (with_reducible refine (laws_szDoneS.calls _ _ l0 1048576 t101 _ ?side1 ?side2 A5.out).mono ?_); (case side1 => repeat (first | exact HR0.out | (with_reducible refine Kd.C_alloc ?_ _) | (with_reducible refine Kd.C_drewN ?_ _) | (with_reducible refine Kd.C_drew ?_))); (case side2 => exact HC0.out); rintro e w' ⟨rfl, ⟨nd, rfl⟩⟩; refine ⟨_, rfl, ?_⟩))
    go_ret
    exact ⟨by first | rfl | (simp [errW_none, errW_some] <;> rfl) | (simp [*, errW_none, errW_some] <;> rfl), by repeat (first | (with_reducible first | exact HB.out | apply below_alloc | apply pw_below_drewN | apply below_drew1) | exact HB.out)⟩
  · rw [if_neg c6] at H
    have c6b0 : decide (t101 < 0) = false := decide_eq_false c6
    clear c6
    replace H := Option.bind_eq_some_iff.mp H
    obtain ⟨t102, A70, H⟩ := H
    replace H : ((spec_AheadOf.f k t102 a1 a2 a3).bind fun bt105 => ((laws_toDoneS.f k l0).bind fun t107 => ((impl_AheadOf.f k t107 a1 a2 a3).bind fun bt110 => (if (bt110.1 != bt105.1) = true then (laws_FnExactAheadOf.j0 k l0 t107 true) else (laws_FnExactAheadOf.j0 k l0 t107 (bt110.2 != bt105.2)))))) = some r := H
    have A7 := Aside0.mk A70
    clear A70
    replace H := Option.bind_eq_some_iff.mp H
    obtain ⟨⟨t105, t106⟩, A80, H⟩ := H
    replace H : ((laws_toDoneS.f k l0).bind fun t107 => ((impl_AheadOf.f k t107 a1 a2 a3).bind fun bt110 => (if (bt110.1 != t105) = true then (laws_FnExactAheadOf.j0 k l0 t107 true) else (laws_FnExactAheadOf.j0 k l0 t107 (bt110.2 != t106))))) = some r := H
    have A8 := Aside0.mk A80
    clear A80
    replace H := Option.bind_eq_some_iff.mp H
    obtain ⟨t107, A90, H⟩ := H
    replace H : ((impl_AheadOf.f k t107 a1 a2 a3).bind fun bt110 => (if (bt110.1 != t105) = true then (laws_FnExactAheadOf.j0 k l0 t107 true) else (laws_FnExactAheadOf.j0 k l0 t107 (bt110.2 != t106)))) = some r := H
    have A9 := Aside0.mk A90
    clear A90
    replace H := Option.bind_eq_some_iff.mp H
    obtain ⟨⟨t110, t111⟩, A100, H⟩ := H
    replace H : (if (t110 != t105) = true then (laws_FnExactAheadOf.j0 k l0 t107 true) else (laws_FnExactAheadOf.j0 k l0 t107 (t111 != t106))) = some r := H
    have A10 := Aside0.mk A100
    clear A100
    have HC11 := Aside0.mk H
    clear H
    go_enter Try.func11, Try.ntmps11
    go_upto_region 8 with (first | ((with_reducible refine gate_callee (f := 43) rfl ?_); refine goesL_ (some 17) rfl rfl Try.func43 (by kernel_rfl) rfl #[.slice A0 l0.length c0, .int .i64 1048576] rfl (by (try simp only [List.map_toArray, List.map_cons, List.map_nil]); first | done | rfl | (simp only [List.length_drop, List.length_take]; rfl)) ?_; (with_reducible refine (laws_szDoneS.calls _ _ l0 1048576 t101 _ ?side1 ?side2 A5.out).mono ?_); (case side1 => repeat (first | exact HR0.out | (with_reducible refine Kd.C_alloc ?_ _) | (with_reducible refine Kd.C_drewN ?_ _) | (with_reducible refine Kd.C_drew ?_))); (case side2 => exact HC0.out); rintro e w' ⟨rfl, ⟨nd, rfl⟩⟩; refine ⟨_, rfl, ?_⟩) | ((with_reducible refine gate_callee (f := 45) rfl ?_); refine goesL_ (some 22) rfl rfl Try.func45 (by kernel_rfl) rfl #[.slice A0 l0.length c0] rfl (by (try simp only [List.map_toArray, List.map_cons, List.map_nil]); first | done | rfl | (simp only [List.length_drop, List.length_take]; rfl)) ?_; (with_reducible refine (laws_toDoneS.calls k _ _ l0 t102 _ ?side1 ?side2 A7.out).mono ?_); (case side1 => repeat (first | exact HR0.out | (with_reducible refine Kd.C_alloc ?_ _) | (with_reducible refine Kd.C_drewN ?_ _) | (with_reducible refine Kd.C_drew ?_))); (case side2 => exact HC0.out); rintro e w12 ⟨v103, rfl, ho0, hb⟩; refine ⟨_, rfl, ?_⟩; have n0_ := Aside0.mk (Kd.R_lower ho0 (below_size (by repeat (first | (with_reducible first | exact HB.out | apply below_alloc | apply pw_below_drewN | apply below_drew1) | exact HB.out)))); have n1_ := Aside0.mk (below_step (by repeat (first | (with_reducible first | exact HB.out | apply below_alloc | apply pw_below_drewN | apply below_drew1) | exact HB.out)) hb); clear HB; have HO104 := n0_; have HB := n1_; clear n0_ n1_; (try clear hb); (try clear hb2); (try clear hk); (try clear hi); (try clear ho0); obtain ⟨Ao13, co13, eo13⟩ := Kd.R_slice HO104.out; subst eo13) | ((with_reducible refine gate_callee (f := 44) rfl ?_); refine goesL_ (some 26) rfl rfl Try.func44 (by kernel_rfl) rfl #[.slice Ao13 t102.length co13, .int .i64 a1, .int .i64 a2, .int .i64 a3] rfl (by (try simp only [List.map_toArray, List.map_cons, List.map_nil]); first | done | rfl | (simp only [List.length_drop, List.length_take]; rfl)) ?_; (with_reducible refine (spec_AheadOf.calls k _ _ t102 a1 a2 a3 t105 t106 _ ?side1 ?side2 A8.out).mono ?_); (case side1 => repeat (first | exact (Kd.R_reads' HO104.out).2.2 | (with_reducible refine Kd.C_alloc ?_ _) | (with_reducible refine Kd.C_drewN ?_ _) | (with_reducible refine Kd.C_drew ?_))); (case side2 => exact (Kd.R_reads' HO104.out).2.1); rintro e w14 ⟨rfl, hb⟩; refine ⟨_, rfl, ?_⟩; have n0_ := Aside0.mk (Kd.R_below (by (with_reducible repeat (first | apply Kd.R_alloc | apply Kd.R_drewN | apply Kd.R_drew)); exact HO104.out) hb); have n1_ := Aside0.mk (below_step (by repeat (first | (with_reducible first | exact HB.out | apply below_alloc | apply pw_below_drewN | apply below_drew1) | exact HB.out)) hb); clear HO104; clear HB; have HO104 := n0_; have HB := n1_; clear n0_ n1_; (try clear hb); (try clear hb2); (try clear hk); (try clear hi)) | ((with_reducible refine gate_callee (f := 45) rfl ?_); refine goesL_ (some 30) rfl rfl Try.func45 (by kernel_rfl) rfl #[.slice A0 l0.length c0] rfl (by (try simp only [List.map_toArray, List.map_cons, List.map_nil]); first | done | rfl | (simp only [List.length_drop, List.length_take]; rfl)) ?_; (with_reducible refine (laws_toDoneS.calls k _ _ l0 t107 _ ?side1 ?side2 A9.out).mono ?_); (case side1 => repeat (first | exact (Kd.C_below HR0.out HB.out) | (with_reducible refine Kd.C_alloc ?_ _) | (with_reducible refine Kd.C_drewN ?_ _) | (with_reducible refine Kd.C_drew ?_))); (case side2 => exact HC0.out); rintro e w15 ⟨v108, rfl, ho0, hb⟩; refine ⟨_, rfl, ?_⟩; have n0_ := Aside0.mk (Kd.R_elder' (by (with_reducible repeat (first | apply Kd.R_alloc | apply Kd.R_drewN | apply Kd.R_drew)); exact HO104.out) (Kd.R_base ho0) hb); have n1_ := Aside0.mk (Kd.R_lower (Kd.R_new' ho0 (Kd.R_lt (by (with_reducible repeat (first | apply Kd.R_alloc | apply Kd.R_drewN | apply Kd.R_drew)); exact HO104.out))) (below_size (by repeat (first | (with_reducible first | exact HB.out | apply below_alloc | apply pw_below_drewN | apply below_drew1) | exact HB.out)))); have n2_ := Aside0.mk (below_step (by repeat (first | (with_reducible first | exact HB.out | apply below_alloc | apply pw_below_drewN | apply below_drew1) | exact HB.out)) hb); clear HO104; clear HB; have HO104 := n0_; have HO109 := n1_; have HB := n2_; clear n0_ n1_ n2_; (try clear hb); (try clear hb2); (try clear hk); (try clear hi); (try clear ho0); obtain ⟨Ao16, co16, eo16⟩ := Kd.R_slice HO109.out; subst eo16) | ((with_reducible refine gate_callee (f := 46) rfl ?_); refine goesL_ (some 36) rfl rfl Try.func46 (by kernel_rfl) rfl #[.slice Ao16 t107.length co16, .int .i64 a1, .int .i64 a2, .int .i64 a3] rfl (by (try simp only [List.map_toArray, List.map_cons, List.map_nil]); first | done | rfl | (simp only [List.length_drop, List.length_take]; rfl)) ?_; (with_reducible refine (impl_AheadOf.calls k _ _ t107 a1 a2 a3 t110 t111 _ ?side1 ?side2 A10.out).mono ?_); (case side1 => repeat (first | exact (Kd.R_reads' HO109.out).2.2 | (with_reducible refine Kd.C_alloc ?_ _) | (with_reducible refine Kd.C_drewN ?_ _) | (with_reducible refine Kd.C_drew ?_))); (case side2 => exact (Kd.R_reads' HO109.out).2.1); rintro e w17 ⟨rfl, hb⟩; refine ⟨_, rfl, ?_⟩; have n0_ := Aside0.mk (Kd.R_below (by (with_reducible repeat (first | apply Kd.R_alloc | apply Kd.R_drewN | apply Kd.R_drew)); exact HO104.out) hb); have n1_ := Aside0.mk (Kd.R_below (by (with_reducible repeat (first | apply Kd.R_alloc | apply Kd.R_drewN | apply Kd.R_drew)); exact HO109.out) hb); have n2_ := Aside0.mk (below_step (by repeat (first | (with_reducible first | exact HB.out | apply below_alloc | apply pw_below_drewN | apply below_drew1) | exact HB.out)) hb); clear HO104; clear HO109; clear HB; have HO104 := n0_; have HO109 := n1_; have HB := n2_; clear n0_ n1_ n2_; (try clear hb); (try clear hb2); (try clear hk); (try clear hi)))
    (try simp only [Act.put, List.setIfInBounds_toArray, List.set_cons_zero, List.set_cons_succ])
    go_cut [46] (fun v46 wc => ∃ (kq : Nat) (x46_10 : Bool), v46 = .bool x46_10 ∧ Aside0 (laws_FnExactAheadOf.j0 kq l0 t107 x46_10 = some r) ∧ Aside0 (kq ≤ k) ∧ Aside0 (Kd.R k88 88 wc w.heap.size (fun _ => True) (.slice Ao16 t107.length co16) t107) ∧ Aside0 (Below w.heap.size w wc))
    case first =>
      have H := HC11.out
      clear HC11
      by_cases c18 : (t110 != t105) = true
      · rw [if_pos c18] at H
        have c18b0 : (t110 != t105) = true := c18
        (try (have c18b1 : decide (t110 = t105) = false := by simpa using c18))
        (try (have c18b2 : (t110 == t105) = false := by simpa using c18))
        (try (have c18b3 : ¬ (t110 = t105) := by simpa using c18))
        clear c18
        (first | rw [c18b0] | (simp only [i64_w, i32_w]; rw [c18b0]) | skip)
        have H' := Aside0.mk H
        clear H
        go_wp2
        go_meet
        case rel => exact ⟨_, (true), (by first | rfl | (simp; done) | (simp [*]; done)), H', ⟨by first | omega | exact Nat.le_refl _⟩, ⟨by (with_reducible repeat (first | apply Kd.R_alloc | apply Kd.R_drewN | apply Kd.R_drew)); exact Kd.R_mono HO109.out (fun _ hk => trivial)⟩, ⟨by repeat (first | (with_reducible first | exact HB.out | apply below_alloc | apply pw_below_drewN | apply below_drew1) | exact HB.out)⟩⟩
      · rw [if_neg c18] at H
        have c18b0 : (t110 != t105) = false := by simpa using c18
        (try (have c18b1 : decide (t110 = t105) = true := by simpa using c18))
        (try (have c18b2 : (t110 == t105) = true := by simpa using c18))
        clear c18
        (first | rw [c18b0] | (simp only [i64_w, i32_w]; rw [c18b0]) | skip)
        have H' := Aside0.mk H
        clear H
        go_wp2
        go_meet
        case rel => exact ⟨_, ((t111 != t106)), (by first | rfl | (simp; done) | (simp [*]; done)), H', ⟨by first | omega | exact Nat.le_refl _⟩, ⟨by (with_reducible repeat (first | apply Kd.R_alloc | apply Kd.R_drewN | apply Kd.R_drew)); exact Kd.R_mono HO109.out (fun _ hk => trivial)⟩, ⟨by repeat (first | (with_reducible first | exact HB.out | apply below_alloc | apply pw_below_drewN | apply below_drew1) | exact HB.out)⟩⟩
    case rest =>
      clear HC11
      try clear c1
      try clear p2
      try clear c4
      try clear c6
      try clear c6b0
      try clear c11
      try clear c18
      try clear c18b0
      try clear c18b1
      try clear c18b2
      obtain ⟨kq, x46_10, rfl, HA, HJ10, HO_12, HB⟩ := hcut
      cases kq with
      | zero => exact absurd HA.out (by simp [laws_FnExactAheadOf.j0])
      | succ kj10 =>
        have H := HA.out
        clear HA
        simp only [laws_FnExactAheadOf.j0] at H
        by_cases c19 : x46_10 = true
        · subst c19
          have H1 : (some false) = some r := by rw [if_pos rfl] at H; exact H
          clear H
          have H := H1
          clear H1
          obtain rfl := Option.some.inj H
          go_wp2
          go_ret
          exact ⟨by first | rfl | (simp [errW_none, errW_some] <;> rfl) | (simp [*, errW_none, errW_some] <;> rfl), by repeat (first | (with_reducible first | exact HB.out | apply below_alloc | apply pw_below_drewN | apply below_drew1) | exact HB.out)⟩
        · replace c19 := Bool.eq_false_iff.mpr c19
          subst c19
          have H1 : ((laws_toDoneS.f kj10 l0).bind fun t112 => ((laws_eqDoneS.f kj10 t107 t112).bind fun t115 => (if t115 = true then (some true) else (some false)))) = some r := by rw [if_neg (show ¬ (false = true) by decide)] at H; exact H
          clear H
          have H := H1
          clear H1
          replace H := Option.bind_eq_some_iff.mp H
          obtain ⟨t112, A200, H⟩ := H
          replace H : ((laws_eqDoneS.f kj10 t107 t112).bind fun t115 => (if t115 = true then (some true) else (some false))) = some r := H
          have A20 := Aside0.mk A200
          clear A200
          replace H := Option.bind_eq_some_iff.mp H
          obtain ⟨t115, A210, H⟩ := H
          replace H : (if t115 = true then (some true) else (some false)) = some r := H
          have A21 := Aside0.mk A210
          clear A210
          by_cases c22 : t115 = true
          · subst c22
            have H1 : (some true) = some r := by rw [if_pos rfl] at H; exact H
            clear H
            have H := H1
            clear H1
            obtain rfl := Option.some.inj H
            go_wp2_with (first | ((with_reducible refine gate_callee (f := 45) rfl ?_); refine goesL_ (some 49) rfl rfl Try.func45 (by kernel_rfl) rfl #[.slice A0 l0.length c0] rfl (by (try simp only [List.map_toArray, List.map_cons, List.map_nil]); first | done | rfl | (simp only [List.length_drop, List.length_take]; rfl)) ?_; (with_reducible refine (laws_toDoneS.calls kj10 _ _ l0 t112 _ ?side1 ?side2 A20.out).mono ?_); (case side1 => repeat (first | exact (Kd.C_below HR0.out HB.out) | (with_reducible refine Kd.C_alloc ?_ _) | (with_reducible refine Kd.C_drewN ?_ _) | (with_reducible refine Kd.C_drew ?_))); (case side2 => exact HC0.out); rintro e w23 ⟨v113, rfl, ho0, hb⟩; refine ⟨_, rfl, ?_⟩; have n0_ := Aside0.mk (Kd.R_elder' (by (with_reducible repeat (first | apply Kd.R_alloc | apply Kd.R_drewN | apply Kd.R_drew)); exact HO_12.out) (Kd.R_base ho0) hb); have n1_ := Aside0.mk (Kd.R_lower (Kd.R_new' ho0 (Kd.R_lt (by (with_reducible repeat (first | apply Kd.R_alloc | apply Kd.R_drewN | apply Kd.R_drew)); exact HO_12.out))) (below_size (by repeat (first | (with_reducible first | exact HB.out | apply below_alloc | apply pw_below_drewN | apply below_drew1) | exact HB.out)))); have n2_ := Aside0.mk (below_step (by repeat (first | (with_reducible first | exact HB.out | apply below_alloc | apply pw_below_drewN | apply below_drew1) | exact HB.out)) hb); clear HO_12; clear HB; have HO_12 := n0_; have HO114 := n1_; have HB := n2_; clear n0_ n1_ n2_; (try clear hb); (try clear hb2); (try clear hk); (try clear hi); (try clear ho0); obtain ⟨Ao24, co24, eo24⟩ := Kd.R_slice HO114.out; subst eo24) | ((with_reducible refine gate_callee (f := 47) rfl ?_); refine goesL_ (some 50) rfl rfl Try.func47 (by kernel_rfl) rfl #[.slice Ao16 t107.length co16, .slice Ao24 t112.length co24] rfl (by (try simp only [List.map_toArray, List.map_cons, List.map_nil]); first | done | rfl | (simp only [List.length_drop, List.length_take]; rfl)) ?_; (with_reducible refine (laws_eqDoneS.calls kj10 _ _ t107 _ _ t112 true _ ?side1 ?side2 ?side3 ?side4 A21.out).mono ?_); (case side1 => repeat (first | exact (Kd.R_reads' HO_12.out).2.2 | (with_reducible refine Kd.C_alloc ?_ _) | (with_reducible refine Kd.C_drewN ?_ _) | (with_reducible refine Kd.C_drew ?_))); (case side2 => exact (Kd.R_reads' HO_12.out).2.1); (case side3 => repeat (first | exact (Kd.R_reads' HO114.out).2.2 | (with_reducible refine Kd.C_alloc ?_ _) | (with_reducible refine Kd.C_drewN ?_ _) | (with_reducible refine Kd.C_drew ?_))); (case side4 => exact (Kd.R_reads' HO114.out).2.1); rintro e w25 ⟨rfl, hb⟩; refine ⟨_, rfl, ?_⟩; have n0_ := Aside0.mk (Kd.R_below (by (with_reducible repeat (first | apply Kd.R_alloc | apply Kd.R_drewN | apply Kd.R_drew)); exact HO_12.out) hb); have n1_ := Aside0.mk (Kd.R_below (by (with_reducible repeat (first | apply Kd.R_alloc | apply Kd.R_drewN | apply Kd.R_drew)); exact HO114.out) hb); have n2_ := Aside0.mk (below_step (by repeat (first | (with_reducible first | exact HB.out | apply below_alloc | apply pw_below_drewN | apply below_drew1) | exact HB.out)) hb); clear HO_12; clear HO114; clear HB; have HO_12 := n0_; have HO114 := n1_; have HB := n2_; clear n0_ n1_ n2_; (try clear hb); (try clear hb2); (try clear hk); (try clear hi)))
            go_ret
            exact ⟨by first | rfl | (simp [errW_none, errW_some] <;> rfl) | (simp [*, errW_none, errW_some] <;> rfl), by repeat (first | (with_reducible first | exact HB.out | apply below_alloc | apply pw_below_drewN | apply below_drew1) | exact HB.out)⟩
          · replace c22 := Bool.eq_false_iff.mpr c22
            subst c22
            have H1 : (some false) = some r := by rw [if_neg (show ¬ (false = true) by decide)] at H; exact H
            clear H
            have H := H1
            clear H1
            obtain rfl := Option.some.inj H
            go_wp2_with (first | ((with_reducible refine gate_callee (f := 45) rfl ?_); refine goesL_ (some 49) rfl rfl Try.func45 (by kernel_rfl) rfl #[.slice A0 l0.length c0] rfl (by (try simp only [List.map_toArray, List.map_cons, List.map_nil]); first | done | rfl | (simp only [List.length_drop, List.length_take]; rfl)) ?_; (with_reducible refine (laws_toDoneS.calls kj10 _ _ l0 t112 _ ?side1 ?side2 A20.out).mono ?_); (case side1 => repeat (first | exact (Kd.C_below HR0.out HB.out) | (with_reducible refine Kd.C_alloc ?_ _) | (with_reducible refine Kd.C_drewN ?_ _) | (with_reducible refine Kd.C_drew ?_))); (case side2 => exact HC0.out); rintro e w26 ⟨v113, rfl, ho0, hb⟩; refine ⟨_, rfl, ?_⟩; have n0_ := Aside0.mk (Kd.R_elder' (by (with_reducible repeat (first | apply Kd.R_alloc | apply Kd.R_drewN | apply Kd.R_drew)); exact HO_12.out) (Kd.R_base ho0) hb); have n1_ := Aside0.mk (Kd.R_lower (Kd.R_new' ho0 (Kd.R_lt (by (with_reducible repeat (first | apply Kd.R_alloc | apply Kd.R_drewN | apply Kd.R_drew)); exact HO_12.out))) (below_size (by repeat (first | (with_reducible first | exact HB.out | apply below_alloc | apply pw_below_drewN | apply below_drew1) | exact HB.out)))); have n2_ := Aside0.mk (below_step (by repeat (first | (with_reducible first | exact HB.out | apply below_alloc | apply pw_below_drewN | apply below_drew1) | exact HB.out)) hb); clear HO_12; clear HB; have HO_12 := n0_; have HO114 := n1_; have HB := n2_; clear n0_ n1_ n2_; (try clear hb); (try clear hb2); (try clear hk); (try clear hi); (try clear ho0); obtain ⟨Ao27, co27, eo27⟩ := Kd.R_slice HO114.out; subst eo27) | ((with_reducible refine gate_callee (f := 47) rfl ?_); refine goesL_ (some 50) rfl rfl Try.func47 (by kernel_rfl) rfl #[.slice Ao16 t107.length co16, .slice Ao27 t112.length co27] rfl (by (try simp only [List.map_toArray, List.map_cons, List.map_nil]); first | done | rfl | (simp only [List.length_drop, List.length_take]; rfl)) ?_; (with_reducible refine (laws_eqDoneS.calls kj10 _ _ t107 _ _ t112 false _ ?side1 ?side2 ?side3 ?side4 A21.out).mono ?_); (case side1 => repeat (first | exact (Kd.R_reads' HO_12.out).2.2 | (with_reducible refine Kd.C_alloc ?_ _) | (with_reducible refine Kd.C_drewN ?_ _) | (with_reducible refine Kd.C_drew ?_))); (case side2 => exact (Kd.R_reads' HO_12.out).2.1); (case side3 => repeat (first | exact (Kd.R_reads' HO114.out).2.2 | (with_reducible refine Kd.C_alloc ?_ _) | (with_reducible refine Kd.C_drewN ?_ _) | (with_reducible refine Kd.C_drew ?_))); (case side4 => exact (Kd.R_reads' HO114.out).2.1); rintro e w28 ⟨rfl, hb⟩; refine ⟨_, rfl, ?_⟩; have n0_ := Aside0.mk (Kd.R_below (by (with_reducible repeat (first | apply Kd.R_alloc | apply Kd.R_drewN | apply Kd.R_drew)); exact HO_12.out) hb); have n1_ := Aside0.mk (Kd.R_below (by (with_reducible repeat (first | apply Kd.R_alloc | apply Kd.R_drewN | apply Kd.R_drew)); exact HO114.out) hb); have n2_ := Aside0.mk (below_step (by repeat (first | (with_reducible first | exact HB.out | apply below_alloc | apply pw_below_drewN | apply below_drew1) | exact HB.out)) hb); clear HO_12; clear HO114; clear HB; have HO_12 := n0_; have HO114 := n1_; have HB := n2_; clear n0_ n1_ n2_; (try clear hb); (try clear hb2); (try clear hk); (try clear hi)))
            go_ret
            exact ⟨by first | rfl | (simp [errW_none, errW_some] <;> rfl) | (simp [*, errW_none, errW_some] <;> rfl), by repeat (first | (with_reducible first | exact HB.out | apply below_alloc | apply pw_below_drewN | apply below_drew1) | exact HB.out)⟩

end Go.Proofs.Ytkocahlifffgjaa.P

/-! ZFnExactAheadOf -/
/- The law of AheadOf answers true at whatever steps. -/
namespace Go.Proofs.Ytkocahlifffgjaa.P
open Go.RowKit Go.Proofs.YtkocahlifffgjaaW.PrintWords
set_option linter.unusedVariables false
set_option linter.unusedSimpArgs false
theorem holds_FnExactAheadOf (w : World) (A0 : Option Addr) (c0 : Nat) (l0 : List S90) (hr : Kd.C k90 w A0 l0.length l0) (hc : l0.length ≤ c0) (a1 a2 a3 : Int) :
    Calls Try.prog 11 #[.slice A0 l0.length c0, .int .i64 a1, .int .i64 a2, .int .i64 a3] w fun e w' => e = .returned (.bool true) ∧ Below w.heap.size w w' := by
  have hm : l0.length ≤ 9223372036854775807 := hr.2.1
  have key : ∃ k, laws_FnExactAheadOf.f k l0 a1 a2 a3 = some true := by
    refine ⟨l0.length + 2, ?_⟩
    unfold laws_FnExactAheadOf.f laws_szDoneS.f
    have e0 : wrap64 (1048576 - (l0.length : Int)) = 1048576 - (l0.length : Int) := by unfold wrap64; omega
    rw [e0]
    by_cases h : 1048576 - (l0.length : Int) < 0
    · rw [if_pos h]; simp only [Option.bind_some]; rw [if_pos (by omega)]
    · rw [if_neg h]; simp only [Option.bind_some]; rw [if_neg h]
      have hl : l0.length ≤ 1048576 := by omega
      have hc := convDs_len l0
      obtain ⟨r, h1, h2⟩ := pure_AheadOf (convDs l0) (by omega) a1 a2 a3 (l0.length + 2) (by omega)
      rw [toDoneS_eq l0 hl _ (by omega)]; simp only [Option.bind_some]
      rw [h1, h2]; simp only [Option.bind_some]
      rw [if_neg (by simp), show (r.2 != r.2) = false by simp]
      simp only [laws_FnExactAheadOf.j0]
      rw [if_neg (by decide), toDoneS_eq l0 hl _ (by omega)]; simp only [Option.bind_some]
      rw [eqDoneS_eq _ (by omega) _ (by omega)]; rfl
  obtain ⟨k, h⟩ := key
  exact laws_FnExactAheadOf.calls k A0 c0 l0 a1 a2 a3 true w hr hc h
end Go.Proofs.Ytkocahlifffgjaa.P

/-! LawFnExactAheadOf -/
/- Proved: for all arguments AheadOf of the program returns what AheadOf of the reference returns; it leaves its arguments as they were, and shares no memory. No condition. -/
namespace Go.Proofs.Ytkocahlifffgjaa.fnExactAheadOf
open Go.ChangeShapes Go.WideShapes Go.ChangeAt Go.RowKit
open Go.ChangeMaps (open_string shut_string)
set_option linter.unusedVariables false
theorem own : ownKnob Try.prog.godebug = none := by kernel_rfl
theorem laidOut : laidOutB Try.prog = true := by kernel_rfl
set_option maxRecDepth 100000 in
theorem lifted (os : Os) (started : os.Started) (H : Type) (enc : TypeId × Value → H) :
    ReturnsInHanded {} Try.checked os 11 .any (Rows.fnExactAheadOfSpec.pre6 enc Try.prog Try.f11 Rows.fnExactAheadOfRow.domain false) (Rows.fnExactAheadOfSpec.post enc Try.prog Try.f11 false true false false) := by
  refine returnsInHanded_of_change_sized (C := Try.checked) own started (by kernel_rfl) Try.func11
    (ChangeSpec.witness6 (enc := enc) (C := Try.checked) false ⟨#[], #[.slice none 0 0, .int .i64 0, .int .i64 0, .int .i64 0], []⟩ 8 (by kernel_rfl) (by kernel_rfl) (by kernel_rfl) (by kernel_rfl)) ?_
  intro W base args ds gs before hval0 hW hcnd hsz0 _
  have hval : ∀ (j : Nat) t v, Try.f11.params[j]? = some t → args[j]? = some v → Value.okWide Try.prog W .any base t v := hval0
  have hW' := hW
  obtain ⟨p, q, hA0, hV, rfl, hfz, hnd⟩ := hW
  have hA : DataW.TrodAll enc Try.prog W 0 (fun _ => true) true Try.f11.params.toList args.toList ds p := hA0
  rw [Try.params11] at hA hval
  obtain ⟨v0, vs0, d0, ds0, p0, q0, hargs, rfl, rfl, h0, r0⟩ := trodAll_cons hA
  obtain ⟨v1, vs1, d1, ds1, p1, q1, rfl, rfl, rfl, h1, r1⟩ := trodAll_cons r0
  obtain ⟨v2, vs2, d2, ds2, p2, q2, rfl, rfl, rfl, h2, r2⟩ := trodAll_cons r1
  obtain ⟨v3, vs3, d3, ds3, p3, q3, rfl, rfl, rfl, h3, r3⟩ := trodAll_cons r2
  obtain ⟨rfl, rfl, rfl⟩ := trodAll_nil r3
  obtain rfl : args = #[v0, v1, v2, v3] := by cases args; simp_all
  obtain ⟨rfl, rfl⟩ := trodVars_none hV
  have lt0 : ∀ x ∈ p0, x.block < W.heap.size := by obtain ⟨m, hm⟩ := h0; exact DataW.trod_lt m _ _ _ hm
  have k0 := h0
  obtain ⟨A0, c0, l0, rfl, hc0, hr0⟩ := Open.open_dones (hval 0 57 v0 rfl rfl) h0
  obtain ⟨a1, rfl, rfl, rfl, w1⟩ := open_int Try.underlying3 (hval 1 3 v1 rfl rfl) h1
  obtain ⟨a2, rfl, rfl, rfl, w2⟩ := open_int Try.underlying3 (hval 2 3 v2 rfl rfl) h2
  obtain ⟨a3, rfl, rfl, rfl, w3⟩ := open_int Try.underlying3 (hval 3 3 v3 rfl rfl) h3
  clear hA0 hval0 hsz0
  refine (P.holds_FnExactAheadOf W A0 c0 l0 hr0 hc0 a1 a2 a3).mono fun e W' ⟨he, bel⟩ => ?_
  subst he
  exact ⟨_, rfl, _, _, _, [], _, [], hW', trodAll_mk1 (shut_bool Try.underlying4 _), (trodAll_cons_mk (Below.trod laidOut (by kernel_rfl) (of_decide_eq_true (by kernel_rfl)) k0 bel lt0) (trodAll_cons_mk (shut_int Try.underlying3 w1) (trodAll_cons_mk (shut_int Try.underlying3 w2) (trodAll_cons_mk (shut_int Try.underlying3 w3) trodAll_mk0)))), rfl, bel.frame _, fun h => by cases h⟩
theorem over : Rows.fnExactAheadOfRow.holds Try.pinned (OpenSpec.ofChange Rows.fnExactAheadOfSpec) :=
  OpenClaim.holds_of_wide 11 Try.f11 rfl rfl rfl rfl rfl rfl rfl ⟨rfl, rfl, rfl, rfl, rfl⟩ rfl rfl rfl rfl rfl (by kernel_rfl) Try.func11 (by kernel_rfl)
    (of_decide_eq_true (by kernel_rfl)) (by unfold Func.isWrapper; first | (rw [if_pos (by decide +kernel)]; kernel_rfl) | (rw [if_neg (by decide +kernel)]; exact ⟨rfl, rfl⟩))
    (fun os started H enc _ => lifted os started H enc)
theorem proved : Rows.FnExactAheadOfSaid := over
#print axioms proved
end Go.Proofs.Ytkocahlifffgjaa.fnExactAheadOf
namespace Go.Proofs.Ytkocahlifffgjaa
/-- The row, under a short name, for the claim. -/
theorem fnExactAheadOf_holds : Rows.FnExactAheadOfSaid := fnExactAheadOf.proved
end Go.Proofs.Ytkocahlifffgjaa

