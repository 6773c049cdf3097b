/- Proved: for all arguments ReverseOf of the program returns what ReverseOf of the reference returns; it leaves its arguments as they were, and shares no memory. No condition. -/
import Derived.Test.YtekoclhnfhbmeaaK0
import Derived.Test.YtekoclhnfhbmeaaB1
import Derived.Test.YtekoclhnfhbmeaaQFnExactReverseOfp0
import Derived.Test.YtekoclhnfhbmeaaB2
import Derived.Test.YtekoclhnfhbmeaaRows
import Derived.WalkKit
import Derived.ProofKit
import Derived.OpenShut
import Derived.ShutString
import Derived.ChangeOld
import Derived.Below
import Derived.SizedLaws
/-! F83 -/
namespace Go.Proofs.Ytekoclhnfhbmeaa.P
open Go.RowKit Go.Proofs.YtekoclhnfhbmeaaW.PrintWords Go.Proofs.YtekoclhnfhbmeaaW.PrintLast Go.Proofs.YtekoclhnfhbmeaaW.PrintMore
attribute [local go_sem] max2_int min2_int max_two min_two max_three min_three max_four min_four   -- for this text's walks alone
set_option linter.unusedVariables false
set_option linter.unusedSimpArgs false

/-! ### spec_l1Turned: function 83 -/
def spec_l1Turned.l0 : Nat → List Int → List Int → Int → Option (List Int)
  | 0, _, _, _ => none
  | k + 1, x0, x3, x4 => if x4 ≥ 0 then (if 0 ≤ x4 then (if x4 < (x0.length : Int) then (if x3.length < 17592186044416 then (spec_l1Turned.l0 k x0 (x3 ++ [rd x0 x4]) (wrap64 (x4 - 1))) else (none)) else (none)) else (none)) else (some x3)
def spec_l1Turned.f (k : Nat) (l0 : List Int) : Option (List Int) := spec_l1Turned.l0 k l0 ([] : List Int) (wrap64 ((l0.length : Int) - 1))
theorem spec_l1Turned.mono_l : ∀ k, (∀ y0 y1 y2, LeO (spec_l1Turned.l0 k y0 y1 y2) (spec_l1Turned.l0 (k + 1) y0 y1 y2))
  | 0 => fun _ _ _ r h => by simp [spec_l1Turned.l0] at h
  | k + 1 => by
    have ih0 := spec_l1Turned.mono_l k
    · intro y0 y1 y2
      unfold spec_l1Turned.l0
      repeat' first
      | (with_reducible exact ih0 _ _ _)
      | (with_reducible exact LeO.refl _)
      | (with_reducible exact LeO.none _)
      | (with_reducible refine LeO.ite ?_ ?_)
      | (with_reducible refine LeO.bind ?_ (fun _ => ?_))
      | exact ih0 _ _ _
      | exact LeO.none _
      | refine LeO.ite ?_ ?_
      | refine LeO.bind ?_ (fun _ => ?_)
theorem spec_l1Turned.mono : ∀ a0 k, LeO (spec_l1Turned.f k a0) (spec_l1Turned.f (k + 1) a0) := by
  intro a0 k
  have ih0 := spec_l1Turned.mono_l k
  unfold spec_l1Turned.f
  repeat' first
      | (with_reducible exact ih0 _ _ _)
      | (with_reducible exact LeO.refl _)
      | (with_reducible exact LeO.none _)
      | (with_reducible refine LeO.ite ?_ ?_)
      | (with_reducible refine LeO.bind ?_ (fun _ => ?_))
      | exact ih0 _ _ _
      | exact LeO.none _
      | refine LeO.ite ?_ ?_
      | refine LeO.bind ?_ (fun _ => ?_)
set_option maxHeartbeats 8000000 in
set_option maxRecDepth 100000 in
theorem spec_l1Turned.calls (k : Nat) (A0 : Option Addr) (c0 : Nat) (l0 : List Int) (r : List Int) (w : World) (hr0 : Kd.C (Kd.int .i64) w A0 l0.length l0) (hc0 : l0.length ≤ c0) (h : spec_l1Turned.f k l0 = some r) :
    Calls Try.prog 83 #[.slice A0 l0.length c0] w fun e w' => ∃ v0_ : Value, e = .returned (v0_) ∧ Kd.R (Kd.int .i64) 3 w' w.heap.size (fun _ => True) v0_ r ∧ Below w.heap.size w w' := by
  have HR0 := Aside0.mk hr0
  have HC0 := Aside0.mk hc0
  clear hr0 hc0
  have HB := Aside0.mk (Below.refl w.heap.size w)
  have H : (spec_l1Turned.l0 k l0 ([] : List Int) (wrap64 ((l0.length : Int) - 1))) = some r := h
  clear h
  have H' := Aside0.mk H
  clear H
  go_enter Try.func83, Try.ntmps83
  go_wp2
  go_loopg [3, 4] k (fun kq v3 v4 w' => ∃ (x3_1 : List Int) (x4_1 : Int), v4 = .int .i64 x4_1 ∧ Aside0 (spec_l1Turned.l0 kq l0 x3_1 x4_1 = some r) ∧ Aside0 (kq ≤ k) ∧ Aside0 (Kd.R (Kd.int .i64) 3 w' w.heap.size (fun _ => True) v3 x3_1) ∧ Aside0 (Below w.heap.size w w'))
  case atStart => exact ⟨(([] : List Int)), (wrap64 ((l0.length : Int) - 1)), (by first | rfl | (simp; done) | (simp [*]; done)), H', ⟨Nat.le_refl _⟩, ⟨by first | exact Kd.R_nil _ _ _ _ _ | exact Kd.N_nil _ _ _ _ _ | exact Kd.V_nil _ _ _ _ _ | exact Kd.Q_nil _ _ _ _ _ | exact Kd.S_nil _ _ _ _ _⟩, ⟨by repeat (first | (with_reducible first | exact HB.out | apply below_alloc | apply pw_below_drewN | apply below_drew1) | exact HB.out)⟩⟩
  case round =>
    clear H'
    obtain ⟨x3_1, x4_1, rfl, HA, HK1, HO_3, HB⟩ := hrel
    cases gk with
    | zero => exact absurd HA.out (by simp [spec_l1Turned.l0])
    | succ k1 =>
      have H := HA.out
      clear HA
      simp only [spec_l1Turned.l0] at H
      by_cases c2 : x4_1 ≥ 0
      · rw [if_pos c2] at H
        have c2b0 : decide (0 ≤ x4_1) = true := decide_eq_true c2
        clear c2
        by_cases c3 : 0 ≤ x4_1
        · rw [if_pos c3] at H
          have c3b0 : decide (0 ≤ x4_1) = true := decide_eq_true c3
          clear c3
          by_cases c4 : x4_1 < (l0.length : Int)
          · rw [if_pos c4] at H
            have c4b0 : decide (x4_1 < (l0.length : Int)) = true := decide_eq_true c4
            clear c4
            by_cases c5 : x3_1.length < 17592186044416
            · rw [if_pos c5] at H
              have LMc5 := Aside0.mk c5
              clear c5
              obtain ⟨y102, hy102⟩ : ∃ y_ : List Int, y_ = (x3_1 ++ [rd l0 x4_1]) := ⟨_, rfl⟩
              replace H : (spec_l1Turned.l0 k1 l0 y102 (wrap64 (x4_1 - 1))) = some r := by first | (rw [hy102]; with_reducible exact H) | (have H2_ := (Option.bind_some _ _).symm.trans H; rw [hy102]; with_reducible exact H2_) | (have H2_ := (Option.bind_some _ _).symm.trans H; with_reducible exact H2_) | with_reducible exact H | (rw [hy102]; exact H) | exact H
              have Ny102 := Aside0.mk hy102
              clear hy102
              have H' := Aside0.mk H
              clear H
              have p101 : 0 ≤ (x4_1 : Int) := of_decide_eq_true (by first | (with_reducible assumption) | assumption)
              have q101 : x4_1 < (l0.length : Int) := of_decide_eq_true (by first | (with_reducible assumption) | assumption)
              obtain ⟨ad101, e101, hx101_0⟩ := Kd.at_int HR0.out x4_1 p101 q101
              cases e101
              replace hx101_0 := (HB.out.cell (World.block_lt_of_cell? w _ hx101_0)).trans hx101_0
              replace p101 := eq_true p101
              replace q101 := eq_true q101
              go_wp2_with (first | ((with_reducible refine gate_builtin (b := .append) (xs := #[.tmp 12, .tmp 17]) rfl ?_); at_builtin; refine Kd.R_append (Kd.int .i64) (w0 := w) w.heap.size rfl (.tmp 12) (.tmp 17) 37 3 (.int .i64 0) 8 rfl Try.underlying37 info3 rfl (by decide) (by omega) u3 x3_1 (rd l0 x4_1) [.int .i64 (rd l0 x4_1)] (fun _ => True) (fun _ => False) rfl rfl ?aP (fun _ hk => hk.elim) ?aF ?aO ?aB ?aS ?aL ?_; (case aP => exact rfl); (case aB => exact (by repeat (first | (with_reducible first | exact HB.out | apply below_alloc | apply pw_below_drewN | apply below_drew1) | exact HB.out))); (case aF => exact (fun _ _ => trivial)); (case aO => exact (by (with_reducible repeat (first | apply Kd.R_alloc | apply Kd.R_drewN | apply Kd.R_drew)); exact HO_3.out)); (case aS => exact (below_size (by repeat (first | (with_reducible first | exact HB.out | apply below_alloc | apply pw_below_drewN | apply below_drew1) | exact HB.out)))); (case aL => have := LMc5.out; omega); intro v103 w6 ho hb hg hat; rw [← Ny102.out] at ho; have n0_ := Aside0.mk (hb); have n1_ := Aside0.mk (ho); clear HB; clear HO_3; have HB := n0_; have HO104 := n1_; clear n0_ n1_; clear ho hb hg hat))
              go_roundg k1
              case measure => have := HK1.out; omega
              case rel => exact ⟨(y102), (wrap64 (x4_1 - 1)), (by first | rfl | (simp; done) | (simp [*]; done)), H', ⟨by have := HK1.out; omega⟩, ⟨by (with_reducible repeat (first | apply Kd.R_alloc | apply Kd.R_drewN | apply Kd.R_drew)); exact HO104.out⟩, ⟨by repeat (first | (with_reducible first | exact HB.out | apply below_alloc | apply pw_below_drewN | apply below_drew1) | exact HB.out)⟩⟩
            · rw [if_neg c5] at H
              exact absurd H (by simp)
          · rw [if_neg c4] at H
            exact absurd H (by simp)
        · rw [if_neg c3] at H
          exact absurd H (by simp)
      · rw [if_neg c2] at H
        have c2b0 : decide (0 ≤ x4_1) = false := decide_eq_false c2
        clear c2
        obtain rfl := Option.some.inj H
        go_wp2
        go_ret
        exact ⟨_, by first | rfl | (simp [errW_none, errW_some] <;> rfl) | (simp [*, errW_none, errW_some] <;> rfl), by (with_reducible repeat (first | apply Kd.R_alloc | apply Kd.R_drewN | apply Kd.R_drew)); exact HO_3.out, by repeat (first | (with_reducible first | exact HB.out | apply below_alloc | apply pw_below_drewN | apply below_drew1) | exact HB.out)⟩

end Go.Proofs.Ytekoclhnfhbmeaa.P

/-! Pr -/
/- Plain rows of numbers: turned round, by slices.Reverse and by the reference's own loop. -/
namespace Go.Proofs.Ytekoclhnfhbmeaa.P
open Go.RowKit Go.Proofs.YtekoclhnfhbmeaaW.PrintWords
set_option linter.unusedVariables false
set_option linter.unusedSimpArgs false
theorem rd_set (x : List Int) (i : Nat) (v : Int) (p : Nat) (hi : i < x.length) : (x.set i v).getD p 0 = if p = i then v else x.getD p 0 := by
  rw [List.getD_eq_getElem?_getD, List.getD_eq_getElem?_getD, List.getElem?_set]
  by_cases h : p = i
  · subst h; simp [hi]
  · rw [if_neg (Ne.symm h), if_neg h]
theorem rev_get (l : List Int) (p : Nat) (hp : p < l.length) : l.reverse.getD p 0 = l.getD (l.length - 1 - p) 0 := by
  rw [List.getD_eq_getElem?_getD, List.getElem?_reverse hp, ← List.getD_eq_getElem?_getD]
theorem ext_getD (x y : List Int) (hl : x.length = y.length) (h : ∀ p, p < x.length → x.getD p 0 = y.getD p 0) : x = y := by
  apply List.ext_getElem hl
  intro p h1 h2
  have := h p h1
  rw [List.getD_eq_getElem?_getD, List.getD_eq_getElem?_getD, List.getElem?_eq_getElem h1, List.getElem?_eq_getElem h2] at this
  simpa using this
theorem reverse_loop (l : List Int) (hl : l.length ≤ 1048576) (d : Nat) : ∀ (i : Nat) (x : List Int), x.length = l.length → l.length - 2 * i = d → 2 * i ≤ l.length + 1 →
    (∀ p, p < l.length → x.getD p 0 = if p < i ∨ l.length ≤ p + i then l.getD (l.length - 1 - p) 0 else l.getD p 0) → ∀ k, d + 1 < k → slices_Reverse_int_int.l0 k x i ((l.length : Int) - 1 - i) = some l.reverse := by
  induction d using Nat.strongRecOn with
  | _ d ih =>
  intro i x hx hd h2 hp k hk
  obtain ⟨k, rfl⟩ : ∃ m, k = m + 1 := ⟨k - 1, by omega⟩
  simp only [slices_Reverse_int_int.l0]
  by_cases c : (i : Int) < (l.length : Int) - 1 - i
  · have hj : ((l.length : Int) - 1 - i).toNat = l.length - 1 - i := by omega
    have e1 : wrap64 ((i : Int) + 1) = ((i + 1 : Nat) : Int) := by unfold wrap64; omega
    have e2 : wrap64 ((l.length : Int) - 1 - i - 1) = (l.length : Int) - 1 - ((i + 1 : Nat) : Int) := by unfold wrap64; omega
    rw [if_pos c, if_pos (by omega), if_pos (by omega), if_pos (by omega), if_pos (by omega), e1, e2]
    refine ih (l.length - 2 * (i + 1)) (by omega) (i + 1) _ (by simp [hx]) rfl (by omega) ?_ k (by omega)
    intro p hpl
    unfold rd
    rw [Int.toNat_natCast, hj, rd_set _ _ _ _ (by simp [hx]; omega), rd_set _ _ _ _ (by omega), hp p hpl, hp (l.length - 1 - i) (by omega), hp i (by omega)]
    by_cases c1 : p = l.length - 1 - i
    · subst c1
      rw [if_pos rfl, if_neg (by omega), if_pos (by omega)]
      congr 1; omega
    · rw [if_neg c1]
      by_cases c2 : p = i
      · subst c2
        rw [if_pos rfl, if_neg (by omega), if_pos (by omega)]
      · rw [if_neg c2]
        by_cases c3 : p < i ∨ l.length ≤ p + i
        · rw [if_pos c3, if_pos (by omega)]
        · rw [if_neg c3, if_neg (by omega)]
  · rw [if_neg c]
    congr 1
    apply ext_getD _ _ (by rw [hx, List.length_reverse])
    intro p hpl
    rw [hx] at hpl
    rw [rev_get l p hpl, hp p hpl]
    by_cases c3 : p < i ∨ l.length ≤ p + i
    · rw [if_pos c3]
    · rw [if_neg c3]; congr 1; omega
theorem reverse_eq (l : List Int) (hl : l.length ≤ 1048576) (k : Nat) (hk : l.length + 1 < k) : slices_Reverse_int_int.f k l = some l.reverse := by
  unfold slices_Reverse_int_int.f
  have := reverse_loop l hl l.length 0 l rfl (by omega) (by omega) (fun p hp => by rw [if_neg (by omega)]) k hk
  rw [show wrap64 ((l.length : Int) - 1) = (l.length : Int) - 1 - ((0 : Nat) : Int) by unfold wrap64; omega, show (0 : Int) = ((0 : Nat) : Int) from rfl]
  exact this
theorem turned_loop (l : List Int) (hl : l.length ≤ 1048576) (d : Nat) : ∀ (a : List Int), a.length + d = l.length → d ≤ l.length → ∀ k, d < k → spec_l1Turned.l0 k l a ((d : Int) - 1) = some (a ++ (l.take d).reverse) := by
  induction d with
  | zero =>
    intro a ha hd k hk
    obtain ⟨k, rfl⟩ : ∃ m, k = m + 1 := ⟨k - 1, by omega⟩
    simp only [spec_l1Turned.l0]
    rw [if_neg (by omega)]; simp
  | succ d ih =>
    intro a ha hd k hk
    obtain ⟨k, rfl⟩ : ∃ m, k = m + 1 := ⟨k - 1, by omega⟩
    simp only [spec_l1Turned.l0]
    rw [show (((d + 1 : Nat) : Int) - 1) = (d : Int) by omega, if_pos (by omega), if_pos (by omega), if_pos (by omega), if_pos (by omega), show wrap64 ((d : Int) - 1) = (d : Int) - 1 by unfold wrap64; omega, ih _ (by simp; omega) (by omega) k (by omega), take_getD l d 0 (by omega)]
    simp [rd]
theorem turned_eq (l : List Int) (hl : l.length ≤ 1048576) (k : Nat) (hk : l.length < k) : spec_l1Turned.f k l = some l.reverse := by
  unfold spec_l1Turned.f
  have := turned_loop l hl l.length [] (by simp) (by omega) k hk
  rw [show wrap64 ((l.length : Int) - 1) = (l.length : Int) - 1 by unfold wrap64; omega, this]
  simp
end Go.Proofs.Ytekoclhnfhbmeaa.P

/-! Hrv -/
/- The program's ReverseOf: what it answers, and that it answers it. -/
namespace Go.Proofs.Ytekoclhnfhbmeaa.P
open Go.RowKit Go.Proofs.YtekoclhnfhbmeaaW.PrintWords Go.Proofs.YtekoclhnfhbmeaaW.PrintLast Go.Proofs.YtekoclhnfhbmeaaW.PrintMore
set_option linter.unusedVariables false
set_option linter.unusedSimpArgs false
theorem S_putb {α : Type} {d : Kd α} {e g t base : Nat} {W W' : World} {ok : Nat → Prop} {v : Value} {xs : List α} {cells : Array Value} (h : Kd.S d e W base ok v xs) (hb : W.heap[g]? = some (.cells cells t (0, 0))) (ht : ∀ q, q ∈ e :: d.E → q ≠ t) (hW : ∀ k, k ≠ g → W'.heap[k]? = W.heap[k]?) : Kd.S d e W' base ok v xs :=
  Kd.S_mono (Kd.S_step (Kd.S_types h hb ht) (fun k hk _ => hW k hk.2)) (fun _ hk => hk.1)
def revR (r : S87) : S87 := ⟨r.f0, r.f1.reverse⟩
def impl_ReverseOf.f (a0_0 a0_1 : Int) (l0_2 : List S87) : Option (Int × Int × List S87 × Bool) := some (if goodG a0_0 a0_1 l0_2 = true then (a0_0, a0_1, l0_2.map revR, true) else (0, 0, [], false))
theorem rulesB_ok (n t : Int) (l : List S87) (m : Nat) (h : rulesB n t l m = true) (i : Nat) (hi : i < m) : okR n t (rd_T87 l i) = true := by
  cases hc : okR n t (rd_T87 l i) with
  | true => rfl
  | false => exact absurd h (by rw [rulesB_no n t l i m hi (.inl hc)]; simp)
theorem goodG_small {n t : Int} {l : List S87} (h : goodG n t l = true) : smallI l ∧ l.length ≤ 16 ∧ ∀ i : Nat, i < l.length → (rd_T87 l i).f1.length ≤ 4 := by
  simp only [goodG, Bool.and_eq_true, decide_eq_true_eq] at h
  have h4 : ∀ i : Nat, i < l.length → (rd_T87 l i).f1.length ≤ 4 := by
    intro i hi
    have := rulesB_ok n t l l.length h.2.2.2 i hi
    simp only [okR, Bool.and_eq_true, decide_eq_true_eq] at this
    exact this.1.2
  exact ⟨⟨by omega, fun i hi => by have := h4 i hi; omega⟩, h.2.2.1, h4⟩

set_option maxHeartbeats 4000000 in
theorem impl_ReverseOf.calls (a0_0 a0_1 : Int) (A0_2 : Option Addr) (c0_2 : Nat) (l0_2 : List S87) (r1 r2 : Int) (r3 : List S87) (r4 : Bool) (w : World) (hr0_2 : Kd.C k87 w A0_2 l0_2.length l0_2) (hc0_2 : l0_2.length ≤ c0_2) (h : impl_ReverseOf.f a0_0 a0_1 l0_2 = some (r1, r2, r3, r4)) :
    Calls Try.prog 48 #[.agg #[.int .i64 a0_0, .int .i64 a0_1, .slice A0_2 l0_2.length c0_2]] w fun e w' => ∃ v2_ : Value, e = .returned (.tuple #[.agg #[.int .i64 r1, .int .i64 r2, v2_], .bool r4]) ∧ Kd.S k87 87 w' w.heap.size (fun _ => True) v2_ r3 ∧ Below w.heap.size w w' := by
  have hu := Try.underlying28
  have hu2 := Try.underlying87
  have CI := fun (W : World) (hW : Below w.heap.size w W) => impl_isGrammar.calls a0_0 a0_1 A0_2 c0_2 l0_2 (goodG a0_0 a0_1 l0_2) W (Kd.C_below hr0_2 hW) hc0_2 rfl
  have HB := Aside0.mk (Below.refl w.heap.size w)
  have tok1 : True := trivial
  cases hg : goodG a0_0 a0_1 l0_2 with
  | true =>
    rw [hg] at CI
    have hsm := goodG_small hg
    have CN : ∀ (W : World) (hW : Below w.heap.size w W), Calls Try.prog 81 #[.agg #[.int .i64 a0_0, .int .i64 a0_1, .slice A0_2 l0_2.length c0_2]] W fun e w' => (∃ A3 c3, e = .returned (.agg #[.int .i64 a0_0, .int .i64 a0_1, .slice A3 l0_2.length c3]) ∧ Kd.S k87 87 w' W.heap.size (fun _ => True) (.slice A3 l0_2.length c3) l0_2) ∧ Below W.heap.size W w' := fun W hW =>
      (impl_copyGrammar.calls (l0_2.length + 1) a0_0 a0_1 A0_2 c0_2 l0_2 a0_0 a0_1 l0_2 W (Kd.C_below hr0_2 hW) hc0_2 (copyGrammar_eq l0_2 hsm.1 _ _ _ (by omega))).mono fun e w' ⟨v, he, hs, hb⟩ => by obtain ⟨A3, c3, rfl⟩ := Kd.S_slice hs; exact ⟨⟨A3, c3, he, hs⟩, hb⟩
    have hf : (a0_0, a0_1, l0_2.map revR, true) = (r1, r2, r3, r4) := by unfold impl_ReverseOf.f at h; rw [hg, if_pos rfl] at h; exact Option.some.inj h
    obtain ⟨e1, e2⟩ := Prod.mk.inj hf
    obtain ⟨e5, e6⟩ := Prod.mk.inj e2
    obtain ⟨e3, e4⟩ := Prod.mk.inj e6
    clear e2 e6
    subst e1 e5 e4
    have E1 := Aside0.mk e3
    have L4 := Aside0.mk hsm.2.2
    have hl16 := hsm.2.1
    clear h hf hr0_2 e3 hsm
    go_enter Try.func48, Try.ntmps48
    go_upto_region 4 with (first | ((with_reducible refine gate_dst (N := 1) rfl ?_); refine box_event ?hg (N := 1) ?hd (cs := #[.int .i64 a0_0, .int .i64 a0_1, .slice A0_2 l0_2.length c0_2]) (t := 28) ?hr ?_; (case hd => rfl); (case hg => rfl); (case hr => first | (go_simp; done) | (go_simp; rfl)); intro gb hg_ w1 hbox_ hb_; have GE_gb := Aside0.mk (show w.heap.size ≤ gb by rw [hg_]; exact below_size (by repeat (first | (with_reducible first | exact HB.out | apply below_alloc | apply pw_below_drewN | apply below_drew1) | exact HB.out))); have n0_ := Aside0.mk (below_step (by repeat (first | (with_reducible first | exact HB.out | apply below_alloc | apply pw_below_drewN | apply below_drew1) | exact HB.out)) hb_); clear HB; have HB := n0_; clear n0_; have B_gb := Aside0.mk hbox_; clear hb_ hbox_ hg_; have x_gb_0 : w1.cell? ⟨gb, 0, none⟩ = some (.int .i64 a0_0) := (blk_cell B_gb.out 0).trans rfl; have x_gb_1 : w1.cell? ⟨gb, 1, none⟩ = some (.int .i64 a0_1) := (blk_cell B_gb.out 1).trans rfl; have x_gb_2 : w1.cell? ⟨gb, 2, none⟩ = some (.slice A0_2 l0_2.length c0_2) := (blk_cell B_gb.out 2).trans rfl) | ((with_reducible refine gate_dst (N := 2) rfl ?_); refine box_event ?hg (N := 2) ?hd (cs := #[.int .i64 0, .int .i64 0, .slice none 0 0]) (t := 28) ?hr ?_; (case hd => rfl); (case hg => rfl); (case hr => first | (go_simp; done) | (go_simp; rfl)); intro gz hg_ w2 hbox_ hb_; have GE_gz := Aside0.mk (show w.heap.size ≤ gz by rw [hg_]; exact below_size (by repeat (first | (with_reducible first | exact HB.out | apply below_alloc | apply pw_below_drewN | apply below_drew1) | exact HB.out))); have NE_gb_gz := Aside0.mk (show gb ≠ gz by rw [hg_]; exact Nat.ne_of_lt (blk_lt (by (with_reducible repeat (first | refine blk_drewN ?_ _ | refine blk_drew ?_ | refine blk_alloc ?_ _)); exact B_gb.out))); clear x_gb_0 x_gb_1 x_gb_2; have n0_ := Aside0.mk (below_step (by repeat (first | (with_reducible first | exact HB.out | apply below_alloc | apply pw_below_drewN | apply below_drew1) | exact HB.out)) hb_); have n_gb := Aside0.mk (blk_below (by (with_reducible repeat (first | refine blk_drewN ?_ _ | refine blk_drew ?_ | refine blk_alloc ?_ _)); exact B_gb.out) hb_); clear HB B_gb; have HB := n0_; have B_gb := n_gb; clear n0_ n_gb; have B_gz := Aside0.mk hbox_; clear hb_ hbox_ hg_; have x_gb_0 : w2.cell? ⟨gb, 0, none⟩ = some (.int .i64 a0_0) := (blk_cell B_gb.out 0).trans rfl; have x_gb_1 : w2.cell? ⟨gb, 1, none⟩ = some (.int .i64 a0_1) := (blk_cell B_gb.out 1).trans rfl; have x_gb_2 : w2.cell? ⟨gb, 2, none⟩ = some (.slice A0_2 l0_2.length c0_2) := (blk_cell B_gb.out 2).trans rfl; have x_gz_0 : w2.cell? ⟨gz, 0, none⟩ = some (.int .i64 0) := (blk_cell B_gz.out 0).trans rfl; have f_gz_0 := blk_frozen B_gz.out 0; have x_gz_1 : w2.cell? ⟨gz, 1, none⟩ = some (.int .i64 0) := (blk_cell B_gz.out 1).trans rfl; have f_gz_1 := blk_frozen B_gz.out 1; have x_gz_2 : w2.cell? ⟨gz, 2, none⟩ = some (.slice none 0 0) := (blk_cell B_gz.out 2).trans rfl; have f_gz_2 := blk_frozen B_gz.out 2) | (have _t := tok1; go_at_call 55; (with_reducible refine (CI _ HB.out).mono ?_); rintro e w3 ⟨rfl, hb_⟩; clear x_gb_0 x_gb_1 x_gb_2 x_gz_0 f_gz_0 x_gz_1 f_gz_1 x_gz_2 f_gz_2; have n0_ := Aside0.mk (below_step (by repeat (first | (with_reducible first | exact HB.out | apply below_alloc | apply pw_below_drewN | apply below_drew1) | exact HB.out)) hb_); have n_gb := Aside0.mk (blk_below (by (with_reducible repeat (first | refine blk_drewN ?_ _ | refine blk_drew ?_ | refine blk_alloc ?_ _)); exact B_gb.out) hb_); have n_gz := Aside0.mk (blk_below (by (with_reducible repeat (first | refine blk_drewN ?_ _ | refine blk_drew ?_ | refine blk_alloc ?_ _)); exact B_gz.out) hb_); clear HB B_gb B_gz; have HB := n0_; have B_gb := n_gb; have B_gz := n_gz; clear n0_ n_gb n_gz; clear hb_; have x_gb_0 : w3.cell? ⟨gb, 0, none⟩ = some (.int .i64 a0_0) := (blk_cell B_gb.out 0).trans rfl; have x_gb_1 : w3.cell? ⟨gb, 1, none⟩ = some (.int .i64 a0_1) := (blk_cell B_gb.out 1).trans rfl; have x_gb_2 : w3.cell? ⟨gb, 2, none⟩ = some (.slice A0_2 l0_2.length c0_2) := (blk_cell B_gb.out 2).trans rfl; have x_gz_0 : w3.cell? ⟨gz, 0, none⟩ = some (.int .i64 0) := (blk_cell B_gz.out 0).trans rfl; have f_gz_0 := blk_frozen B_gz.out 0; have x_gz_1 : w3.cell? ⟨gz, 1, none⟩ = some (.int .i64 0) := (blk_cell B_gz.out 1).trans rfl; have f_gz_1 := blk_frozen B_gz.out 1; have x_gz_2 : w3.cell? ⟨gz, 2, none⟩ = some (.slice none 0 0) := (blk_cell B_gz.out 2).trans rfl; have f_gz_2 := blk_frozen B_gz.out 2; clear CI tok1) | (go_at_call 81; (with_reducible refine (CN _ HB.out).mono ?_); rintro e w4 ⟨⟨A3, c3, rfl, hs⟩, hb_⟩; clear x_gb_0 x_gb_1 x_gb_2 x_gz_0 f_gz_0 x_gz_1 f_gz_1 x_gz_2 f_gz_2; have hs := Kd.S_lower hs (below_size (by repeat (first | (with_reducible first | exact HB.out | apply below_alloc | apply pw_below_drewN | apply below_drew1) | exact HB.out))); have n0_ := Aside0.mk (below_step (by repeat (first | (with_reducible first | exact HB.out | apply below_alloc | apply pw_below_drewN | apply below_drew1) | exact HB.out)) hb_); have n_gb := Aside0.mk (blk_below (by (with_reducible repeat (first | refine blk_drewN ?_ _ | refine blk_drew ?_ | refine blk_alloc ?_ _)); exact B_gb.out) hb_); have n_gz := Aside0.mk (blk_below (by (with_reducible repeat (first | refine blk_drewN ?_ _ | refine blk_drew ?_ | refine blk_alloc ?_ _)); exact B_gz.out) hb_); clear HB B_gb B_gz; have HB := n0_; have B_gb := n_gb; have B_gz := n_gz; clear n0_ n_gb n_gz; clear hb_; have x_gz_0 : w4.cell? ⟨gz, 0, none⟩ = some (.int .i64 0) := (blk_cell B_gz.out 0).trans rfl; have f_gz_0 := blk_frozen B_gz.out 0; have x_gz_1 : w4.cell? ⟨gz, 1, none⟩ = some (.int .i64 0) := (blk_cell B_gz.out 1).trans rfl; have f_gz_1 := blk_frozen B_gz.out 1; have x_gz_2 : w4.cell? ⟨gz, 2, none⟩ = some (.slice none 0 0) := (blk_cell B_gz.out 2).trans rfl; have f_gz_2 := blk_frozen B_gz.out 2; have HS := Aside0.mk hs; clear hs CN) | ((with_reducible refine gate_dst (N := 4) rfl ?_); refine box_event ?hg (N := 4) ?hd (cs := #[.int .i64 0, .int .i64 0, .slice none 0 0]) (t := 28) ?hr ?_; (case hd => rfl); (case hg => rfl); (case hr => first | (go_simp; done) | (go_simp; rfl)); intro go hg_ w5 hbox_ hb_; have GE_go := Aside0.mk (show w.heap.size ≤ go by rw [hg_]; exact below_size (by repeat (first | (with_reducible first | exact HB.out | apply below_alloc | apply pw_below_drewN | apply below_drew1) | exact HB.out))); have NE_gb_go := Aside0.mk (show gb ≠ go by rw [hg_]; exact Nat.ne_of_lt (blk_lt (by (with_reducible repeat (first | refine blk_drewN ?_ _ | refine blk_drew ?_ | refine blk_alloc ?_ _)); exact B_gb.out))); have NE_gz_go := Aside0.mk (show gz ≠ go by rw [hg_]; exact Nat.ne_of_lt (blk_lt (by (with_reducible repeat (first | refine blk_drewN ?_ _ | refine blk_drew ?_ | refine blk_alloc ?_ _)); exact B_gz.out))); clear x_gz_0 f_gz_0 x_gz_1 f_gz_1 x_gz_2 f_gz_2; have n0_ := Aside0.mk (below_step (by repeat (first | (with_reducible first | exact HB.out | apply below_alloc | apply pw_below_drewN | apply below_drew1) | exact HB.out)) hb_); have n_gb := Aside0.mk (blk_below (by (with_reducible repeat (first | refine blk_drewN ?_ _ | refine blk_drew ?_ | refine blk_alloc ?_ _)); exact B_gb.out) hb_); have n_gz := Aside0.mk (blk_below (by (with_reducible repeat (first | refine blk_drewN ?_ _ | refine blk_drew ?_ | refine blk_alloc ?_ _)); exact B_gz.out) hb_); have nx_HS := Aside0.mk (Kd.S_below HS.out hb_); clear HB B_gb B_gz HS; have HB := n0_; have B_gb := n_gb; have B_gz := n_gz; have HS := nx_HS; clear n0_ n_gb n_gz nx_HS; have B_go := Aside0.mk hbox_; clear hb_ hbox_ hg_; have x_go_0 : w5.cell? ⟨go, 0, none⟩ = some (.int .i64 0) := (blk_cell B_go.out 0).trans rfl; have f_go_0 := blk_frozen B_go.out 0; have x_go_1 : w5.cell? ⟨go, 1, none⟩ = some (.int .i64 0) := (blk_cell B_go.out 1).trans rfl; have f_go_1 := blk_frozen B_go.out 1; have x_go_2 : w5.cell? ⟨go, 2, none⟩ = some (.slice none 0 0) := (blk_cell B_go.out 2).trans rfl; have f_go_2 := blk_frozen B_go.out 2))
    obtain ⟨w6, hw_⟩ : ∃ w_ : World, w_ = (((w5.setCell ⟨go, 0, none⟩ (.int .i64 a0_0)).setCell ⟨go, 1, none⟩ (.int .i64 a0_1)).setCell ⟨go, 2, none⟩ (.slice A3 l0_2.length c3)) := ⟨_, rfl⟩
    rw [← hw_]
    clear x_go_0 f_go_0 x_go_1 f_go_1 x_go_2 f_go_2
    have m0_ := Aside0.mk (show Below w.heap.size w w6 by rw [hw_]; exact (below_set (below_set (below_set HB.out GE_go.out) GE_go.out) GE_go.out))
    have m_gb := Aside0.mk (show w6.heap[gb]? = some (.cells #[.int .i64 a0_0, .int .i64 a0_1, .slice A0_2 l0_2.length c0_2] 28 (0, 0)) by rw [hw_]; exact (blk_far (blk_far (blk_far B_gb.out NE_gb_go.out _) NE_gb_go.out _) NE_gb_go.out _))
    have m_gz := Aside0.mk (show w6.heap[gz]? = some (.cells #[.int .i64 0, .int .i64 0, .slice none 0 0] 28 (0, 0)) by rw [hw_]; exact (blk_far (blk_far (blk_far B_gz.out NE_gz_go.out _) NE_gz_go.out _) NE_gz_go.out _))
    have m_go := Aside0.mk (show w6.heap[go]? = some (.cells #[.int .i64 a0_0, .int .i64 a0_1, .slice A3 l0_2.length c3] 28 (0, 0)) by rw [hw_]; exact (blk_put (cs := #[.int .i64 a0_0, .int .i64 a0_1, .slice none 0 0]) (blk_put (cs := #[.int .i64 a0_0, .int .i64 0, .slice none 0 0]) (blk_put (cs := #[.int .i64 0, .int .i64 0, .slice none 0 0]) B_go.out 0 _ rfl) 1 _ rfl) 2 _ rfl))
    have mx_HS := Aside0.mk (S_putb (W' := w6) HS.out B_go.out (by decide) (fun k hk => by rw [hw_]; exact (Below.heap_setCell _ ⟨go, 2, none⟩ _ k hk).trans ((Below.heap_setCell _ ⟨go, 1, none⟩ _ k hk).trans (Below.heap_setCell _ ⟨go, 0, none⟩ _ k hk))))
    clear HB hw_ B_gb B_gz B_go HS
    have HB := m0_
    have B_gb := m_gb
    have B_gz := m_gz
    have B_go := m_go
    have HS := mx_HS
    clear m0_ m_gb m_gz m_go mx_HS
    have x_go_0 : w6.cell? ⟨go, 0, none⟩ = some (.int .i64 a0_0) := (blk_cell B_go.out 0).trans rfl
    have x_go_1 : w6.cell? ⟨go, 1, none⟩ = some (.int .i64 a0_1) := (blk_cell B_go.out 1).trans rfl
    have x_go_2 : w6.cell? ⟨go, 2, none⟩ = some (.slice A3 l0_2.length c3) := (blk_cell B_go.out 2).trans rfl
    go_wp2
    go_loopg [16] l0_2.length (fun gg s16 wr => ∃ i : Nat, i ≤ l0_2.length ∧ l0_2.length - i ≤ gg ∧ s16 = .int .i64 i ∧ Aside0 (Kd.S k87 87 wr w.heap.size (fun _ => True) (.slice A3 l0_2.length c3) ((l0_2.take i).map revR ++ l0_2.drop i)) ∧ Aside0 (Below w.heap.size w wr) ∧ Aside0 (wr.heap[gb]? = some (.cells #[.int .i64 a0_0, .int .i64 a0_1, .slice A0_2 l0_2.length c0_2] 28 (0, 0))) ∧ Aside0 (wr.heap[gz]? = some (.cells #[.int .i64 0, .int .i64 0, .slice none 0 0] 28 (0, 0))) ∧ Aside0 (wr.heap[go]? = some (.cells #[.int .i64 a0_0, .int .i64 a0_1, .slice A3 l0_2.length c3] 28 (0, 0))))
    case atStart => exact ⟨0, Nat.zero_le _, by omega, rfl, ⟨by simpa using HS.out⟩, HB, B_gb, B_gz, B_go⟩
    case round =>
      clear x_go_0 x_go_1 x_go_2
      clear HB HS B_gb B_gz B_go
      obtain ⟨i, hi, hgg, rfl, HS, HB, B_gb, B_gz, B_go⟩ := hrel
      by_cases hlt : i < l0_2.length
      · obtain ⟨y, hy⟩ : ∃ y, y = l0_2.getD i z87 := ⟨_, rfl⟩
        have ed := getD_drop l0_2 i z87 hlt
        have et := take_getD l0_2 i z87 hlt
        have hyl : y.f1.length ≤ 4 := by have := L4.out i hlt; rw [hy]; simpa [rd_T87] using this
        rw [← hy] at ed et
        have emk : ∀ z_, z_ = (⟨y.f0, y.f1.reverse⟩ : S87) → ((l0_2.take i).map revR ++ l0_2.drop i).set i z_ = (l0_2.take (i + 1)).map revR ++ l0_2.drop (i + 1) := by
          rintro z_ rfl
          rw [ed, set_mid _ _ _ _ _ (by rw [List.length_map, List.length_take]; omega), et, List.map_append]
          simp [revR]
        have elen : ((l0_2.take i).map revR ++ l0_2.drop i).length = l0_2.length := by rw [List.length_append, List.length_map, List.length_take, List.length_drop]; omega
        have eget : ((l0_2.take i).map revR ++ l0_2.drop i).getD i z87 = y := by
          rw [ed, List.getD_eq_getElem?_getD, List.getElem?_append_right (by rw [List.length_map, List.length_take]; omega), List.length_map, List.length_take, Nat.min_eq_left hi, Nat.sub_self]; rfl
        obtain ⟨xs, hxs⟩ : ∃ xs, xs = ((l0_2.take i).map revR ++ l0_2.drop i) := ⟨_, rfl⟩
        rw [← hxs] at HS emk elen eget
        have EM := Aside0.mk emk
        clear ed et hy hxs emk
        obtain ⟨g9, co9, eo, -, -, -, -⟩ := Kd.S_form HS.out (by rw [elen]; omega)
        injection eo with ea en ec
        subst ea ec
        clear en
        have HS2 : Kd.S k87 87 wr w.heap.size (fun k => k < wr.heap.size) (.slice (some ⟨g9, 0, none⟩) l0_2.length c3) xs := Kd.S_mono (Kd.S_bound HS.out) (fun k hk => hk.2.2.1)
        obtain ⟨oki, c, hcl, hM, hcc, hfr, hoki, hH⟩ := Kd.S_elem HS2 z87 (i : Int) (by omega) (by omega)
        rw [Int.toNat_natCast, eget] at hM
        obtain ⟨v1, rfl, hR⟩ := k87_openM hM
        obtain ⟨a1, c1, rfl⟩ := Kd.R_slice hR
        have hx0 : wr.cell? ⟨g9, i * 2, none⟩ = some (.int .i64 y.f0) := hcc 0 _ rfl
        have hx1 : wr.cell? ⟨g9, i * 2 + 1, none⟩ = some (.slice a1 y.f1.length c1) := hcc 1 _ rfl
        have hd : decide (i < l0_2.length) = true := decide_eq_true hlt
        have hmx : l0_2.length ≤ 9223372036854775807 := by omega
        have HR := Aside0.mk hR
        have HH := Aside0.mk hH
        have OI := Aside0.mk hoki
        have GN := Aside0.mk trivial
        have LT := Aside0.mk hlt
        clear hR hH hoki hM hcl hcc hfr HS2 HS eget
        go_upto_region 7 with (first | ((with_reducible refine gate_dst (N := 6) rfl ?_); refine box_event ?hg (N := 6) ?hd (cs := #[.int .i64 0, .slice none 0 0]) (t := 87) ?hr ?_; (case hd => rfl); (case hg => rfl); (case hr => first | (go_simp; done) | (go_simp; rfl)); intro gr hg_ w11 hbox_ hb_; have GE_gr := Aside0.mk (show w.heap.size ≤ gr by rw [hg_]; exact below_size (by repeat (first | (with_reducible first | exact HB.out | apply below_alloc | apply pw_below_drewN | apply below_drew1) | exact HB.out))); have NE_gb_gr := Aside0.mk (show gb ≠ gr by rw [hg_]; exact Nat.ne_of_lt (blk_lt (by (with_reducible repeat (first | refine blk_drewN ?_ _ | refine blk_drew ?_ | refine blk_alloc ?_ _)); exact B_gb.out))); have NE_gz_gr := Aside0.mk (show gz ≠ gr by rw [hg_]; exact Nat.ne_of_lt (blk_lt (by (with_reducible repeat (first | refine blk_drewN ?_ _ | refine blk_drew ?_ | refine blk_alloc ?_ _)); exact B_gz.out))); have NE_go_gr := Aside0.mk (show go ≠ gr by rw [hg_]; exact Nat.ne_of_lt (blk_lt (by (with_reducible repeat (first | refine blk_drewN ?_ _ | refine blk_drew ?_ | refine blk_alloc ?_ _)); exact B_go.out))); clear hx0 hx1; have n0_ := Aside0.mk (below_step (by repeat (first | (with_reducible first | exact HB.out | apply below_alloc | apply pw_below_drewN | apply below_drew1) | exact HB.out)) hb_); have n_gb := Aside0.mk (blk_below (by (with_reducible repeat (first | refine blk_drewN ?_ _ | refine blk_drew ?_ | refine blk_alloc ?_ _)); exact B_gb.out) hb_); have n_gz := Aside0.mk (blk_below (by (with_reducible repeat (first | refine blk_drewN ?_ _ | refine blk_drew ?_ | refine blk_alloc ?_ _)); exact B_gz.out) hb_); have n_go := Aside0.mk (blk_below (by (with_reducible repeat (first | refine blk_drewN ?_ _ | refine blk_drew ?_ | refine blk_alloc ?_ _)); exact B_go.out) hb_); have nx_HR := Aside0.mk (Kd.R_below HR.out hb_); have nx_HH := Aside0.mk (Kd.H_below HH.out hb_); have nx_GN := Aside0.mk (show wr.heap.size ≤ gr by rw [hg_]; exact Nat.le_refl _); clear HB B_gb B_gz B_go HR HH GN; have HB := n0_; have B_gb := n_gb; have B_gz := n_gz; have B_go := n_go; have HR := nx_HR; have HH := nx_HH; have GN := nx_GN; clear n0_ n_gb n_gz n_go nx_HR nx_HH nx_GN; have B_gr := Aside0.mk hbox_; clear hb_ hbox_ hg_; have x_gr_0 : w11.cell? ⟨gr, 0, none⟩ = some (.int .i64 0) := (blk_cell B_gr.out 0).trans rfl; have f_gr_0 := blk_frozen B_gr.out 0; have x_gr_1 : w11.cell? ⟨gr, 1, none⟩ = some (.slice none 0 0) := (blk_cell B_gr.out 1).trans rfl; have f_gr_1 := blk_frozen B_gr.out 1))
        obtain ⟨w12, hw_⟩ : ∃ w_ : World, w_ = ((w11.setCell ⟨gr, 0, none⟩ (.int .i64 y.f0)).setCell ⟨gr, 1, none⟩ (.slice a1 y.f1.length c1)) := ⟨_, rfl⟩
        rw [← hw_]
        clear x_gr_0 f_gr_0 x_gr_1 f_gr_1
        have m0_ := Aside0.mk (show Below w.heap.size w w12 by rw [hw_]; exact (below_set (below_set HB.out GE_gr.out) GE_gr.out))
        have m_gb := Aside0.mk (show w12.heap[gb]? = some (.cells #[.int .i64 a0_0, .int .i64 a0_1, .slice A0_2 l0_2.length c0_2] 28 (0, 0)) by rw [hw_]; exact (blk_far (blk_far B_gb.out NE_gb_gr.out _) NE_gb_gr.out _))
        have m_gz := Aside0.mk (show w12.heap[gz]? = some (.cells #[.int .i64 0, .int .i64 0, .slice none 0 0] 28 (0, 0)) by rw [hw_]; exact (blk_far (blk_far B_gz.out NE_gz_gr.out _) NE_gz_gr.out _))
        have m_go := Aside0.mk (show w12.heap[go]? = some (.cells #[.int .i64 a0_0, .int .i64 a0_1, .slice (some ⟨g9, 0, none⟩) l0_2.length c3] 28 (0, 0)) by rw [hw_]; exact (blk_far (blk_far B_go.out NE_go_gr.out _) NE_go_gr.out _))
        have m_gr := Aside0.mk (show w12.heap[gr]? = some (.cells #[.int .i64 y.f0, .slice a1 y.f1.length c1] 87 (0, 0)) by rw [hw_]; exact (blk_put (cs := #[.int .i64 y.f0, .slice none 0 0]) (blk_put (cs := #[.int .i64 0, .slice none 0 0]) B_gr.out 0 _ rfl) 1 _ rfl))
        have mx_HR := Aside0.mk (Kd.R_step (w1 := w12) HR.out (fun k hk_ _ => by have hk : k ≠ gr := Nat.ne_of_lt (Nat.lt_of_lt_of_le (OI.out k hk_).1 GN.out); rw [hw_]; exact (Below.heap_setCell _ ⟨gr, 1, none⟩ _ k hk).trans (Below.heap_setCell _ ⟨gr, 0, none⟩ _ k hk)))
        have mx_HH := Aside0.mk (Kd.H_step (w1 := w12) HH.out (fun k hk_ _ _ => by have hk : k ≠ gr := Nat.ne_of_lt (Nat.lt_of_lt_of_le hk_ GN.out); rw [hw_]; exact (Below.heap_setCell _ ⟨gr, 1, none⟩ _ k hk).trans (Below.heap_setCell _ ⟨gr, 0, none⟩ _ k hk)))
        clear HB hw_ B_gb B_gz B_go B_gr HR HH
        have HB := m0_
        have B_gb := m_gb
        have B_gz := m_gz
        have B_go := m_go
        have B_gr := m_gr
        have HR := mx_HR
        have HH := mx_HH
        clear m0_ m_gb m_gz m_go m_gr mx_HR mx_HH
        have x_gr_0 : w12.cell? ⟨gr, 0, none⟩ = some (.int .i64 y.f0) := (blk_cell B_gr.out 0).trans rfl
        have x_gr_1 : w12.cell? ⟨gr, 1, none⟩ = some (.slice a1 y.f1.length c1) := (blk_cell B_gr.out 1).trans rfl
        go_wp2_with (first | (go_at_call 84; (with_reducible refine (slices_Reverse_int_int.calls (y.f1.length + 2) (fun k => some k = (Value.slice a1 y.f1.length c1).ownBlock) (.slice a1 y.f1.length c1) y.f1 y.f1.reverse w _ HB.out (Kd.R_tight rfl HR.out) (reverse_eq y.f1 (by omega) _ (by omega))).mono ?_); rintro e w13 ⟨rfl, ho, hb, hk⟩; clear x_gr_0 x_gr_1; have n_gb := Aside0.mk (blk_kept B_gb.out hk (fun e_ => Kd.R_ne HR.out B_gb.out (by decide) e_)); have n_gz := Aside0.mk (blk_kept B_gz.out hk (fun e_ => Kd.R_ne HR.out B_gz.out (by decide) e_)); have n_go := Aside0.mk (blk_kept B_go.out hk (fun e_ => Kd.R_ne HR.out B_go.out (by decide) e_)); have NK := Aside0.mk hk; have NO := Aside0.mk ho; clear HB B_gb B_gz B_go B_gr; have HB := Aside0.mk hb; have B_gb := n_gb; have B_gz := n_gz; have B_go := n_go; clear n_gb n_gz n_go ho hb hk))
        go_roundg (l0_2.length - (i + 1))
        case measure => have := LT.out; omega
        case rel =>
          refine ⟨i + 1, by have := LT.out; omega, by omega, by go_num, ⟨?_⟩, HB, B_gb, B_gz, B_go⟩
          have hR1 := HR.out.1
          have H2 := Kd.H_kept HH.out NK.out (fun k _ hno hs => hno (hR1 k hs.symm))
          have H3 := Kd.H_back H2 (x' := (⟨y.f0, y.f1.reverse⟩ : S87)) (k87_mkM _ _ _ (⟨y.f0, y.f1.reverse⟩ : S87) (Kd.R_mono (Kd.R_tight rfl NO.out) (fun q hq => hR1 q hq.symm))) (fun _ h => h)
          rw [Int.toNat_natCast, EM.out _ rfl] at H3
          exact Kd.S_mono H3 (fun _ _ => trivial)
      · have e : i = l0_2.length := by omega
        have hfin : ((l0_2.take i).map revR ++ l0_2.drop i) = l0_2.map revR := by rw [e, List.take_of_length_le (Nat.le_refl _), List.drop_of_length_le (Nat.le_refl _), List.append_nil]
        rw [hfin] at HS
        have hd : decide (i < l0_2.length) = false := decide_eq_false (by omega)
        clear hfin e hlt
        have x_gz_0 : wr.cell? ⟨gz, 0, none⟩ = some (.int .i64 0) := (blk_cell B_gz.out 0).trans rfl
        have f_gz_0 := blk_frozen B_gz.out 0
        have x_gz_1 : wr.cell? ⟨gz, 1, none⟩ = some (.int .i64 0) := (blk_cell B_gz.out 1).trans rfl
        have f_gz_1 := blk_frozen B_gz.out 1
        have x_gz_2 : wr.cell? ⟨gz, 2, none⟩ = some (.slice none 0 0) := (blk_cell B_gz.out 2).trans rfl
        have f_gz_2 := blk_frozen B_gz.out 2
        have x_go_0 : wr.cell? ⟨go, 0, none⟩ = some (.int .i64 a0_0) := (blk_cell B_go.out 0).trans rfl
        have x_go_1 : wr.cell? ⟨go, 1, none⟩ = some (.int .i64 a0_1) := (blk_cell B_go.out 1).trans rfl
        have x_go_2 : wr.cell? ⟨go, 2, none⟩ = some (.slice A3 l0_2.length c3) := (blk_cell B_go.out 2).trans rfl
        go_wp2
        obtain ⟨w9, hw_⟩ : ∃ w_ : World, w_ = (((wr.setCell ⟨gz, 0, none⟩ (.int .i64 a0_0)).setCell ⟨gz, 1, none⟩ (.int .i64 a0_1)).setCell ⟨gz, 2, none⟩ (.slice A3 l0_2.length c3)) := ⟨_, rfl⟩
        rw [← hw_]
        clear x_gz_0 f_gz_0 x_gz_1 f_gz_1 x_gz_2 f_gz_2 x_go_0 x_go_1 x_go_2
        have m0_ := Aside0.mk (show Below w.heap.size w w9 by rw [hw_]; exact (below_set (below_set (below_set HB.out GE_gz.out) GE_gz.out) GE_gz.out))
        have m_gb := Aside0.mk (show w9.heap[gb]? = some (.cells #[.int .i64 a0_0, .int .i64 a0_1, .slice A0_2 l0_2.length c0_2] 28 (0, 0)) by rw [hw_]; exact (blk_far (blk_far (blk_far B_gb.out NE_gb_gz.out _) NE_gb_gz.out _) NE_gb_gz.out _))
        have m_gz := Aside0.mk (show w9.heap[gz]? = some (.cells #[.int .i64 a0_0, .int .i64 a0_1, .slice A3 l0_2.length c3] 28 (0, 0)) by rw [hw_]; exact (blk_put (cs := #[.int .i64 a0_0, .int .i64 a0_1, .slice none 0 0]) (blk_put (cs := #[.int .i64 a0_0, .int .i64 0, .slice none 0 0]) (blk_put (cs := #[.int .i64 0, .int .i64 0, .slice none 0 0]) B_gz.out 0 _ rfl) 1 _ rfl) 2 _ rfl))
        have m_go := Aside0.mk (show w9.heap[go]? = some (.cells #[.int .i64 a0_0, .int .i64 a0_1, .slice A3 l0_2.length c3] 28 (0, 0)) by rw [hw_]; exact (blk_far (blk_far (blk_far B_go.out (Ne.symm NE_gz_go.out) _) (Ne.symm NE_gz_go.out) _) (Ne.symm NE_gz_go.out) _))
        have mx_HS := Aside0.mk (S_putb (W' := w9) HS.out B_gz.out (by decide) (fun k hk => by rw [hw_]; exact (Below.heap_setCell _ ⟨gz, 2, none⟩ _ k hk).trans ((Below.heap_setCell _ ⟨gz, 1, none⟩ _ k hk).trans (Below.heap_setCell _ ⟨gz, 0, none⟩ _ k hk))))
        clear HB hw_ B_gb B_gz B_go HS
        have HB := m0_
        have B_gb := m_gb
        have B_gz := m_gz
        have B_go := m_go
        have HS := mx_HS
        clear m0_ m_gb m_gz m_go mx_HS
        have x_gz_0 : w9.cell? ⟨gz, 0, none⟩ = some (.int .i64 a0_0) := (blk_cell B_gz.out 0).trans rfl
        have x_gz_1 : w9.cell? ⟨gz, 1, none⟩ = some (.int .i64 a0_1) := (blk_cell B_gz.out 1).trans rfl
        have x_gz_2 : w9.cell? ⟨gz, 2, none⟩ = some (.slice A3 l0_2.length c3) := (blk_cell B_gz.out 2).trans rfl
        refine bodyPost_ret (v := .tuple #[.agg #[.int .i64 a0_0, .int .i64 a0_1, .slice A3 l0_2.length c3], .bool true]) (by simp [results, Try.results48, go_sem, x_gz_0, x_gz_1, x_gz_2]) rfl ⟨_, rfl, by rw [← E1.out]; exact HS.out, HB.out⟩
  | false =>
    rw [hg] at CI
    have hf : ((0 : Int), (0 : Int), ([] : List S87), false) = (r1, r2, r3, r4) := by unfold impl_ReverseOf.f at h; rw [hg, if_neg (by decide)] at h; exact Option.some.inj h
    obtain ⟨e1, e2⟩ := Prod.mk.inj hf
    obtain ⟨e5, e6⟩ := Prod.mk.inj e2
    obtain ⟨e3, e4⟩ := Prod.mk.inj e6
    clear e2 e6
    subst e1 e5 e3 e4
    clear h hf hr0_2
    go_enter Try.func48, Try.ntmps48
    go_wp2_with (first | ((with_reducible refine gate_dst (N := 1) rfl ?_); refine box_event ?hg (N := 1) ?hd (cs := #[.int .i64 a0_0, .int .i64 a0_1, .slice A0_2 l0_2.length c0_2]) (t := 28) ?hr ?_; (case hd => rfl); (case hg => rfl); (case hr => first | (go_simp; done) | (go_simp; rfl)); intro gb hg_ w1 hbox_ hb_; have GE_gb := Aside0.mk (show w.heap.size ≤ gb by rw [hg_]; exact below_size (by repeat (first | (with_reducible first | exact HB.out | apply below_alloc | apply pw_below_drewN | apply below_drew1) | exact HB.out))); have n0_ := Aside0.mk (below_step (by repeat (first | (with_reducible first | exact HB.out | apply below_alloc | apply pw_below_drewN | apply below_drew1) | exact HB.out)) hb_); clear HB; have HB := n0_; clear n0_; have B_gb := Aside0.mk hbox_; clear hb_ hbox_ hg_; have x_gb_0 : w1.cell? ⟨gb, 0, none⟩ = some (.int .i64 a0_0) := (blk_cell B_gb.out 0).trans rfl; have x_gb_1 : w1.cell? ⟨gb, 1, none⟩ = some (.int .i64 a0_1) := (blk_cell B_gb.out 1).trans rfl; have x_gb_2 : w1.cell? ⟨gb, 2, none⟩ = some (.slice A0_2 l0_2.length c0_2) := (blk_cell B_gb.out 2).trans rfl) | ((with_reducible refine gate_dst (N := 2) rfl ?_); refine box_event ?hg (N := 2) ?hd (cs := #[.int .i64 0, .int .i64 0, .slice none 0 0]) (t := 28) ?hr ?_; (case hd => rfl); (case hg => rfl); (case hr => first | (go_simp; done) | (go_simp; rfl)); intro gz hg_ w2 hbox_ hb_; have GE_gz := Aside0.mk (show w.heap.size ≤ gz by rw [hg_]; exact below_size (by repeat (first | (with_reducible first | exact HB.out | apply below_alloc | apply pw_below_drewN | apply below_drew1) | exact HB.out))); have NE_gb_gz := Aside0.mk (show gb ≠ gz by rw [hg_]; exact Nat.ne_of_lt (blk_lt (by (with_reducible repeat (first | refine blk_drewN ?_ _ | refine blk_drew ?_ | refine blk_alloc ?_ _)); exact B_gb.out))); clear x_gb_0 x_gb_1 x_gb_2; have n0_ := Aside0.mk (below_step (by repeat (first | (with_reducible first | exact HB.out | apply below_alloc | apply pw_below_drewN | apply below_drew1) | exact HB.out)) hb_); have n_gb := Aside0.mk (blk_below (by (with_reducible repeat (first | refine blk_drewN ?_ _ | refine blk_drew ?_ | refine blk_alloc ?_ _)); exact B_gb.out) hb_); clear HB B_gb; have HB := n0_; have B_gb := n_gb; clear n0_ n_gb; have B_gz := Aside0.mk hbox_; clear hb_ hbox_ hg_; have x_gb_0 : w2.cell? ⟨gb, 0, none⟩ = some (.int .i64 a0_0) := (blk_cell B_gb.out 0).trans rfl; have x_gb_1 : w2.cell? ⟨gb, 1, none⟩ = some (.int .i64 a0_1) := (blk_cell B_gb.out 1).trans rfl; have x_gb_2 : w2.cell? ⟨gb, 2, none⟩ = some (.slice A0_2 l0_2.length c0_2) := (blk_cell B_gb.out 2).trans rfl; have x_gz_0 : w2.cell? ⟨gz, 0, none⟩ = some (.int .i64 0) := (blk_cell B_gz.out 0).trans rfl; have f_gz_0 := blk_frozen B_gz.out 0; have x_gz_1 : w2.cell? ⟨gz, 1, none⟩ = some (.int .i64 0) := (blk_cell B_gz.out 1).trans rfl; have f_gz_1 := blk_frozen B_gz.out 1; have x_gz_2 : w2.cell? ⟨gz, 2, none⟩ = some (.slice none 0 0) := (blk_cell B_gz.out 2).trans rfl; have f_gz_2 := blk_frozen B_gz.out 2) | (have _t := tok1; go_at_call 55; (with_reducible refine (CI _ HB.out).mono ?_); rintro e w3 ⟨rfl, hb_⟩; clear x_gb_0 x_gb_1 x_gb_2 x_gz_0 f_gz_0 x_gz_1 f_gz_1 x_gz_2 f_gz_2; have n0_ := Aside0.mk (below_step (by repeat (first | (with_reducible first | exact HB.out | apply below_alloc | apply pw_below_drewN | apply below_drew1) | exact HB.out)) hb_); have n_gb := Aside0.mk (blk_below (by (with_reducible repeat (first | refine blk_drewN ?_ _ | refine blk_drew ?_ | refine blk_alloc ?_ _)); exact B_gb.out) hb_); have n_gz := Aside0.mk (blk_below (by (with_reducible repeat (first | refine blk_drewN ?_ _ | refine blk_drew ?_ | refine blk_alloc ?_ _)); exact B_gz.out) hb_); clear HB B_gb B_gz; have HB := n0_; have B_gb := n_gb; have B_gz := n_gz; clear n0_ n_gb n_gz; clear hb_; have x_gb_0 : w3.cell? ⟨gb, 0, none⟩ = some (.int .i64 a0_0) := (blk_cell B_gb.out 0).trans rfl; have x_gb_1 : w3.cell? ⟨gb, 1, none⟩ = some (.int .i64 a0_1) := (blk_cell B_gb.out 1).trans rfl; have x_gb_2 : w3.cell? ⟨gb, 2, none⟩ = some (.slice A0_2 l0_2.length c0_2) := (blk_cell B_gb.out 2).trans rfl; have x_gz_0 : w3.cell? ⟨gz, 0, none⟩ = some (.int .i64 0) := (blk_cell B_gz.out 0).trans rfl; have f_gz_0 := blk_frozen B_gz.out 0; have x_gz_1 : w3.cell? ⟨gz, 1, none⟩ = some (.int .i64 0) := (blk_cell B_gz.out 1).trans rfl; have f_gz_1 := blk_frozen B_gz.out 1; have x_gz_2 : w3.cell? ⟨gz, 2, none⟩ = some (.slice none 0 0) := (blk_cell B_gz.out 2).trans rfl; have f_gz_2 := blk_frozen B_gz.out 2; clear CI tok1))
    obtain ⟨w5, hw_⟩ : ∃ w_ : World, w_ = (((w3.setCell ⟨gz, 0, none⟩ (.int .i64 0)).setCell ⟨gz, 1, none⟩ (.int .i64 0)).setCell ⟨gz, 2, none⟩ (.slice none 0 0)) := ⟨_, rfl⟩
    rw [← hw_]
    clear x_gb_0 x_gb_1 x_gb_2 x_gz_0 f_gz_0 x_gz_1 f_gz_1 x_gz_2 f_gz_2
    have m0_ := Aside0.mk (show Below w.heap.size w w5 by rw [hw_]; exact (below_set (below_set (below_set HB.out GE_gz.out) GE_gz.out) GE_gz.out))
    have m_gb := Aside0.mk (show w5.heap[gb]? = some (.cells #[.int .i64 a0_0, .int .i64 a0_1, .slice A0_2 l0_2.length c0_2] 28 (0, 0)) by rw [hw_]; exact (blk_far (blk_far (blk_far B_gb.out NE_gb_gz.out _) NE_gb_gz.out _) NE_gb_gz.out _))
    have m_gz := Aside0.mk (show w5.heap[gz]? = some (.cells #[.int .i64 0, .int .i64 0, .slice none 0 0] 28 (0, 0)) by rw [hw_]; exact (blk_put (cs := #[.int .i64 0, .int .i64 0, .slice none 0 0]) (blk_put (cs := #[.int .i64 0, .int .i64 0, .slice none 0 0]) (blk_put (cs := #[.int .i64 0, .int .i64 0, .slice none 0 0]) B_gz.out 0 _ rfl) 1 _ rfl) 2 _ rfl))
    clear HB hw_ B_gb B_gz
    have HB := m0_
    have B_gb := m_gb
    have B_gz := m_gz
    clear m0_ m_gb m_gz
    have x_gz_0 : w5.cell? ⟨gz, 0, none⟩ = some (.int .i64 0) := (blk_cell B_gz.out 0).trans rfl
    have x_gz_1 : w5.cell? ⟨gz, 1, none⟩ = some (.int .i64 0) := (blk_cell B_gz.out 1).trans rfl
    have x_gz_2 : w5.cell? ⟨gz, 2, none⟩ = some (.slice none 0 0) := (blk_cell B_gz.out 2).trans rfl
    refine bodyPost_ret (v := .tuple #[.agg #[.int .i64 0, .int .i64 0, .slice none 0 0], .bool false]) (by simp [results, Try.results48, go_sem, x_gz_0, x_gz_1, x_gz_2]) rfl ⟨_, rfl, Kd.S_nil _ _ _ _ _, HB.out⟩
end Go.Proofs.Ytekoclhnfhbmeaa.P

/-! F47 -/
namespace Go.Proofs.Ytekoclhnfhbmeaa.P
open Go.RowKit Go.Proofs.YtekoclhnfhbmeaaW.PrintWords Go.Proofs.YtekoclhnfhbmeaaW.PrintLast Go.Proofs.YtekoclhnfhbmeaaW.PrintMore
attribute [local go_sem] max2_int min2_int max_two min_two max_three min_three max_four min_four   -- for this text's walks alone
set_option linter.unusedVariables false
set_option linter.unusedSimpArgs false

/-! ### spec_ReverseOf: function 47 -/
def spec_ReverseOf.l0 : Nat → Int → Int → Int → Int → List (S87) → Option (Int × Int × (List (S87)) × Bool)
  | 0, _, _, _, _, _ => none
  | k + 1, x14, x15, x110000, x110001, x110002 => if x15 < x14 then (if 0 ≤ x15 then (if x15 < (x110002.length : Int) then ((spec_l1Turned.f k ((rd_T87 x110002 x15).f1)).bind fun t111 => (spec_ReverseOf.l0 k x14 (wrap64 (x15 + 1)) x110000 x110001 (x110002.set (x15 : Int).toNat (⟨(rd_T87 x110002 x15).f0, t111⟩ : S87)))) else (none)) else (none)) else (some (x110000, x110001, x110002, true))
def spec_ReverseOf.f (k : Nat) (a0_0 : Int) (a0_1 : Int) (l0_2 : List (S87)) : Option (Int × Int × (List (S87)) × Bool) := (spec_GoodGrammar.f k a0_0 a0_1 l0_2).bind fun t103 => (if t103 = true then ((spec_l1OwnG.f k a0_0 a0_1 l0_2).bind fun bt104 => (spec_ReverseOf.l0 k (bt104.2.2.length : Int) 0 bt104.1 bt104.2.1 bt104.2.2)) else (some (0, 0, ([] : List (S87)), false)))
theorem spec_ReverseOf.mono_l : ∀ k, (∀ y0 y1 y2 y3 y4, LeO (spec_ReverseOf.l0 k y0 y1 y2 y3 y4) (spec_ReverseOf.l0 (k + 1) y0 y1 y2 y3 y4))
  | 0 => fun _ _ _ _ _ r h => by simp [spec_ReverseOf.l0] at h
  | k + 1 => by
    have ih0 := spec_ReverseOf.mono_l k
    · intro y0 y1 y2 y3 y4
      unfold spec_ReverseOf.l0
      repeat' first
      | (with_reducible exact ih0 _ _ _ _ _)
      | (with_reducible exact spec_GoodGrammar.mono _ _ _ _)
      | (with_reducible exact spec_l1OwnG.mono _ _ _ _)
      | (with_reducible exact spec_l1Turned.mono _ _)
      | (with_reducible exact LeO.refl _)
      | (with_reducible exact LeO.none _)
      | (with_reducible refine LeO.ite ?_ ?_)
      | (with_reducible refine LeO.bind ?_ (fun _ => ?_))
      | exact ih0 _ _ _ _ _
      | exact spec_GoodGrammar.mono _ _ _ _
      | exact spec_l1OwnG.mono _ _ _ _
      | exact spec_l1Turned.mono _ _
      | exact LeO.none _
      | refine LeO.ite ?_ ?_
      | refine LeO.bind ?_ (fun _ => ?_)
theorem spec_ReverseOf.mono : ∀ a0 a1 a2 k, LeO (spec_ReverseOf.f k a0 a1 a2) (spec_ReverseOf.f (k + 1) a0 a1 a2) := by
  intro a0 a1 a2 k
  have ih0 := spec_ReverseOf.mono_l k
  unfold spec_ReverseOf.f
  repeat' first
      | (with_reducible exact ih0 _ _ _ _ _)
      | (with_reducible exact spec_GoodGrammar.mono _ _ _ _)
      | (with_reducible exact spec_l1OwnG.mono _ _ _ _)
      | (with_reducible exact spec_l1Turned.mono _ _)
      | (with_reducible exact LeO.refl _)
      | (with_reducible exact LeO.none _)
      | (with_reducible refine LeO.ite ?_ ?_)
      | (with_reducible refine LeO.bind ?_ (fun _ => ?_))
      | exact ih0 _ _ _ _ _
      | exact spec_GoodGrammar.mono _ _ _ _
      | exact spec_l1OwnG.mono _ _ _ _
      | exact spec_l1Turned.mono _ _
      | exact LeO.none _
      | refine LeO.ite ?_ ?_
      | refine LeO.bind ?_ (fun _ => ?_)
def spec_ReverseOf.T7 : Bool × List (List Nat × List Nat) := (true, [([], []), ([0], [0]), ([], []), ([], []), ([3], [3]), ([], []), ([4, 5], [4, 5]), ([6], [6]), ([7], [7]), ([8], [8]), ([1, 2, 0, 1, 2, 3, 4, 5, 6, 7, 8, 9], [1, 2]), ([10, 0, 1, 2, 3, 4, 5, 6, 7, 8, 9], [10]), ([11, 9, 9, 0, 1, 2, 3, 4, 5, 6, 7, 8, 9], [9, 11])])
def spec_ReverseOf.B7 : List Nat := [0, 1, 0, 0, 8, 0, 56, 120, 248, 504, 1023, 2047, 4095]
theorem spec_ReverseOf.tab7 : rtab .any (opsOf Try.f47 7) = spec_ReverseOf.T7 := by kernel_rfl
theorem spec_ReverseOf.bits7 : waitsOk spec_ReverseOf.T7.2 spec_ReverseOf.B7 = true := by kernel_rfl
set_option maxHeartbeats 8000000 in
set_option maxRecDepth 100000 in
theorem spec_ReverseOf.calls (k : Nat) (a0_0 : Int) (a0_1 : Int) (A0_2 : Option Addr) (c0_2 : Nat) (l0_2 : List (S87)) (r1 : Int) (r2 : Int) (r3 : List (S87)) (r4 : Bool) (w : World) (hr0_2 : Kd.C k87 w A0_2 l0_2.length l0_2) (hc0_2 : l0_2.length ≤ c0_2) (h : spec_ReverseOf.f k a0_0 a0_1 l0_2 = some (r1, r2, r3, r4)) :
    Calls Try.prog 47 #[.agg #[.int .i64 a0_0, .int .i64 a0_1, .slice A0_2 l0_2.length c0_2]] w fun e w' => ∃ v2_ : Value, e = .returned (.tuple #[.agg #[.int .i64 r1, .int .i64 r2, v2_], .bool r4]) ∧ Kd.N k87 87 w' w.heap.size (fun k_ => (w.heap.size ≤ k_)) v2_ r3 ∧ Below w.heap.size w w' := by
  have hu28 := Try.underlying28
  have HR0_2 := Aside0.mk hr0_2
  have HC0_2 := Aside0.mk hc0_2
  clear hr0_2 hc0_2
  have HB := Aside0.mk (Below.refl w.heap.size w)
  have H : ((spec_GoodGrammar.f k a0_0 a0_1 l0_2).bind fun t103 => (if t103 = true then ((spec_l1OwnG.f k a0_0 a0_1 l0_2).bind fun bt104 => (spec_ReverseOf.l0 k (bt104.2.2.length : Int) 0 bt104.1 bt104.2.1 bt104.2.2)) else (some (0, 0, ([] : List (S87)), false)))) = some (r1, r2, r3, r4) := h
  clear h
  replace H := Option.bind_eq_some_iff.mp H
  obtain ⟨t103, A20, H⟩ := H
  replace H : (if t103 = true then ((spec_l1OwnG.f k a0_0 a0_1 l0_2).bind fun bt104 => (spec_ReverseOf.l0 k (bt104.2.2.length : Int) 0 bt104.1 bt104.2.1 bt104.2.2)) else (some (0, 0, ([] : List (S87)), false))) = some (r1, r2, r3, r4) := H
  have A2 := Aside0.mk A20
  clear A20
  by_cases c3 : t103 = true
  · subst c3
    have H1 : ((spec_l1OwnG.f k a0_0 a0_1 l0_2).bind fun bt104 => (spec_ReverseOf.l0 k (bt104.2.2.length : Int) 0 bt104.1 bt104.2.1 bt104.2.2)) = some (r1, r2, r3, r4) := by rw [if_pos rfl] at H; exact H
    clear H
    have H := H1
    clear H1
    replace H := Option.bind_eq_some_iff.mp H
    obtain ⟨⟨t104, t105, t106⟩, A40, H⟩ := H
    replace H : (spec_ReverseOf.l0 k (t106.length : Int) 0 t104 t105 t106) = some (r1, r2, r3, r4) := H
    have A4 := Aside0.mk A40
    clear A40
    have H' := Aside0.mk H
    clear H
    go_enter Try.func47, Try.ntmps47
    go_wp2_with (first | ((with_reducible refine gate_dst (N := 1) rfl ?_); refine box_event ?hg (N := 1) ?hd (cs := #[.int .i64 a0_0, .int .i64 a0_1, .slice A0_2 l0_2.length c0_2]) (t := 28) ?hr ?_; (case hd => rfl); (case hg => rfl); (case hr => first | (go_simp; done) | (go_simp; rfl)); intro gb101 hg w5 hbox hb; have n0_ := Aside0.mk (below_step (by repeat (first | (with_reducible first | exact HB.out | apply below_alloc | apply pw_below_drewN | apply below_drew1) | exact HB.out)) hb); have n1_ := Aside0.mk (hbox); have n2_ := Aside0.mk ((by rw [hg]; exact (below_size (by repeat (first | (with_reducible first | exact HB.out | apply below_alloc | apply pw_below_drewN | apply below_drew1) | exact HB.out))) : w.heap.size ≤ gb101)); have n3_ := Aside0.mk ((by rw [hg]; exact (below_size (by repeat (first | (with_reducible first | exact HB.out | apply below_alloc | apply pw_below_drewN | apply below_drew1) | exact HB.out))) : w.heap.size ≤ gb101)); clear HB; have HB := n0_; have BK101 := n1_; have GW101 := n2_; have GE101 := n3_; clear n0_ n1_ n2_ n3_; clear hb hbox hg) | ((with_reducible refine gate_dst (N := 2) rfl ?_); refine box_event ?hg (N := 2) ?hd (cs := #[.int .i64 0, .int .i64 0, .slice none 0 0]) (t := 28) ?hr ?_; (case hd => rfl); (case hg => rfl); (case hr => first | (go_simp; done) | (go_simp; rfl)); intro gb102 hg w6 hbox hb; have n0_ := Aside0.mk (blk_below (g := gb101) (o := .cells #[.int .i64 a0_0, .int .i64 a0_1, .slice A0_2 l0_2.length c0_2] 28 (0, 0)) (by (with_reducible repeat (first | refine blk_drewN ?_ _ | refine blk_drew ?_ | refine blk_alloc ?_ _)); exact BK101.out) hb); have n1_ := Aside0.mk (below_step (by repeat (first | (with_reducible first | exact HB.out | apply below_alloc | apply pw_below_drewN | apply below_drew1 | refine below_set ?_ GE101.out) | exact HB.out)) hb); have n2_ := Aside0.mk (hbox); have n3_ := Aside0.mk ((by rw [hg]; exact (below_size (by repeat (first | (with_reducible first | exact HB.out | apply below_alloc | apply pw_below_drewN | apply below_drew1 | refine below_set ?_ GE101.out) | exact HB.out))) : w.heap.size ≤ gb102)); have n4_ := Aside0.mk ((by rw [hg]; exact (below_size (by repeat (first | (with_reducible first | exact HB.out | apply below_alloc | apply pw_below_drewN | apply below_drew1 | refine below_set ?_ GE101.out) | exact HB.out))) : w.heap.size ≤ gb102)); have n5_ := Aside0.mk ((by rw [hg]; exact Nat.ne_of_lt (blk_lt (g := gb101) (o := .cells #[.int .i64 a0_0, .int .i64 a0_1, .slice A0_2 l0_2.length c0_2] 28 (0, 0)) (by (with_reducible repeat (first | refine blk_drewN ?_ _ | refine blk_drew ?_ | refine blk_alloc ?_ _)); exact BK101.out)) : gb101 ≠ gb102)); have n6_ := Aside0.mk ((by rw [hg]; exact Nat.ne_of_gt (blk_lt (g := gb101) (o := .cells #[.int .i64 a0_0, .int .i64 a0_1, .slice A0_2 l0_2.length c0_2] 28 (0, 0)) (by (with_reducible repeat (first | refine blk_drewN ?_ _ | refine blk_drew ?_ | refine blk_alloc ?_ _)); exact BK101.out)) : gb102 ≠ gb101)); clear BK101; clear HB; have BK101 := n0_; have HB := n1_; have BK102 := n2_; have GW102 := n3_; have GE102 := n4_; have NB101_102 := n5_; have NB102_101 := n6_; clear n0_ n1_ n2_ n3_ n4_ n5_ n6_; clear hb hbox hg; have hnb7 := NB101_102.out; have hnc7 := NB102_101.out; have hcz8_0 : w6.cell? ⟨gb101, 0, none⟩ = some (.int .i64 a0_0) := (blk_cell BK101.out 0).trans rfl; have hcz8_1 : w6.cell? ⟨gb101, 1, none⟩ = some (.int .i64 a0_1) := (blk_cell BK101.out 1).trans rfl; have hcz8_2 : w6.cell? ⟨gb101, 2, none⟩ = some (.slice A0_2 l0_2.length c0_2) := (blk_cell BK101.out 2).trans rfl; have hfz8_0 := blk_frozen BK101.out 0; have hfz8_1 := blk_frozen BK101.out 1; have hfz8_2 := blk_frozen BK101.out 2) | ((with_reducible refine gate_callee (f := 52) rfl ?_); refine goesL_ (some 7) rfl rfl Try.func52 (by kernel_rfl) rfl #[.agg #[.int .i64 a0_0, .int .i64 a0_1, .slice A0_2 l0_2.length c0_2]] rfl (by (try simp only [List.map_toArray, List.map_cons, List.map_nil]); first | done | rfl | (simp only [List.length_drop, List.length_take]; rfl)) ?_; (with_reducible refine (spec_GoodGrammar.calls k a0_0 a0_1 _ _ l0_2 true _ ?side1 ?side2 A2.out).mono ?_); (case side1 => repeat (first | exact (Kd.C_below HR0_2.out HB.out) | (with_reducible refine Kd.C_alloc ?_ _) | (with_reducible refine Kd.C_drewN ?_ _) | (with_reducible refine Kd.C_drew ?_))); (case side2 => exact HC0_2.out); rintro e w9 ⟨rfl, hb⟩; refine ⟨_, rfl, ?_⟩; have n0_ := Aside0.mk (blk_below (g := gb101) (o := .cells #[.int .i64 a0_0, .int .i64 a0_1, .slice A0_2 l0_2.length c0_2] 28 (0, 0)) (by (with_reducible repeat (first | refine blk_drewN ?_ _ | refine blk_drew ?_ | refine blk_alloc ?_ _)); exact BK101.out) hb); have n1_ := Aside0.mk (blk_below (g := gb102) (o := .cells #[.int .i64 0, .int .i64 0, .slice none 0 0] 28 (0, 0)) (by (with_reducible repeat (first | refine blk_drewN ?_ _ | refine blk_drew ?_ | refine blk_alloc ?_ _)); exact BK102.out) hb); have n2_ := Aside0.mk (below_step (by repeat (first | (with_reducible first | exact HB.out | apply below_alloc | apply pw_below_drewN | apply below_drew1 | refine below_set ?_ GE101.out | refine below_set ?_ GE102.out) | exact HB.out)) hb); clear BK101; clear BK102; clear HB; have BK101 := n0_; have BK102 := n1_; have HB := n2_; clear n0_ n1_ n2_; (try clear hb); (try clear hb2); (try clear hk); (try clear hi); have hcz10_0 : w9.cell? ⟨gb101, 0, none⟩ = some (.int .i64 a0_0) := (blk_cell BK101.out 0).trans rfl; have hcz10_1 : w9.cell? ⟨gb101, 1, none⟩ = some (.int .i64 a0_1) := (blk_cell BK101.out 1).trans rfl; have hcz10_2 : w9.cell? ⟨gb101, 2, none⟩ = some (.slice A0_2 l0_2.length c0_2) := (blk_cell BK101.out 2).trans rfl; have hfz10_0 := blk_frozen BK101.out 0; have hfz10_1 := blk_frozen BK101.out 1; have hfz10_2 := blk_frozen BK101.out 2) | ((with_reducible refine gate_callee (f := 80) rfl ?_); refine goesL_ (some 11) rfl rfl Try.func80 (by kernel_rfl) rfl #[.agg #[.int .i64 a0_0, .int .i64 a0_1, .slice A0_2 l0_2.length c0_2]] rfl (by (try simp only [List.map_toArray, List.map_cons, List.map_nil]); first | done | rfl | (simp only [List.length_drop, List.length_take]; rfl)) ?_; (with_reducible refine (spec_l1OwnG.calls k a0_0 a0_1 _ _ l0_2 t104 t105 t106 _ ?side1 ?side2 A4.out).mono ?_); (case side1 => repeat (first | exact (Kd.C_below HR0_2.out HB.out) | (with_reducible refine Kd.C_alloc ?_ _) | (with_reducible refine Kd.C_drewN ?_ _) | (with_reducible refine Kd.C_drew ?_))); (case side2 => exact HC0_2.out); rintro e w11 ⟨v107, rfl, ho0, hb⟩; refine ⟨_, rfl, ?_⟩; have n0_ := Aside0.mk (Kd.N_lower (Kd.N_mono (ok' := fun k_ => (w.heap.size ≤ k_) ∧ k_ ≠ gb101 ∧ k_ ≠ gb102) (Kd.S_N (Kd.S_bound ho0)) (fun k_ hk_ => ⟨(Nat.le_trans (below_size (by repeat (first | (with_reducible first | exact HB.out | apply below_alloc | apply pw_below_drewN | apply below_drew1 | refine below_set ?_ GE101.out | refine below_set ?_ GE102.out) | exact HB.out))) hk_.2.1), (Kd.freshB (g := gb101) (o := .cells #[.int .i64 a0_0, .int .i64 a0_1, .slice A0_2 l0_2.length c0_2] 28 (0, 0)) (by (with_reducible repeat (first | refine blk_drewN ?_ _ | refine blk_drew ?_ | refine blk_alloc ?_ _)); exact BK101.out) k_ hk_.2.1), (Kd.freshB (g := gb102) (o := .cells #[.int .i64 0, .int .i64 0, .slice none 0 0] 28 (0, 0)) (by (with_reducible repeat (first | refine blk_drewN ?_ _ | refine blk_drew ?_ | refine blk_alloc ?_ _)); exact BK102.out) k_ hk_.2.1)⟩)) (below_size (by repeat (first | (with_reducible first | exact HB.out | apply below_alloc | apply pw_below_drewN | apply below_drew1 | refine below_set ?_ GE101.out | refine below_set ?_ GE102.out) | exact HB.out)))); have n1_ := Aside0.mk (blk_below (g := gb101) (o := .cells #[.int .i64 a0_0, .int .i64 a0_1, .slice A0_2 l0_2.length c0_2] 28 (0, 0)) (by (with_reducible repeat (first | refine blk_drewN ?_ _ | refine blk_drew ?_ | refine blk_alloc ?_ _)); exact BK101.out) hb); have n2_ := Aside0.mk (blk_below (g := gb102) (o := .cells #[.int .i64 0, .int .i64 0, .slice none 0 0] 28 (0, 0)) (by (with_reducible repeat (first | refine blk_drewN ?_ _ | refine blk_drew ?_ | refine blk_alloc ?_ _)); exact BK102.out) hb); have n3_ := Aside0.mk (below_step (by repeat (first | (with_reducible first | exact HB.out | apply below_alloc | apply pw_below_drewN | apply below_drew1 | refine below_set ?_ GE101.out | refine below_set ?_ GE102.out) | exact HB.out)) hb); clear BK101; clear BK102; clear HB; have HO108 := n0_; have BK101 := n1_; have BK102 := n2_; have HB := n3_; clear n0_ n1_ n2_ n3_; (try clear hb); (try clear hb2); (try clear hk); (try clear hi); (try clear ho0)) | ((with_reducible refine gate_dst (N := 4) rfl ?_); refine box_event ?hg (N := 4) ?hd (cs := #[.int .i64 0, .int .i64 0, .slice none 0 0]) (t := 28) ?hr ?_; (case hd => rfl); (case hg => rfl); (case hr => first | (go_simp; done) | (go_simp; rfl)); intro gb109 hg w12 hbox hb; have n0_ := Aside0.mk (Kd.N_below (Kd.N_elderB (by (with_reducible repeat (first | apply Kd.N_alloc | apply Kd.N_drewN | apply Kd.N_drew)); exact HO108.out) gb109 (Nat.le_of_eq hg.symm)) hb); have n1_ := Aside0.mk (blk_below (g := gb101) (o := .cells #[.int .i64 a0_0, .int .i64 a0_1, .slice A0_2 l0_2.length c0_2] 28 (0, 0)) (by (with_reducible repeat (first | refine blk_drewN ?_ _ | refine blk_drew ?_ | refine blk_alloc ?_ _)); exact BK101.out) hb); have n2_ := Aside0.mk (blk_below (g := gb102) (o := .cells #[.int .i64 0, .int .i64 0, .slice none 0 0] 28 (0, 0)) (by (with_reducible repeat (first | refine blk_drewN ?_ _ | refine blk_drew ?_ | refine blk_alloc ?_ _)); exact BK102.out) hb); have n3_ := Aside0.mk (below_step (by repeat (first | (with_reducible first | exact HB.out | apply below_alloc | apply pw_below_drewN | apply below_drew1 | refine below_set ?_ GE101.out | refine below_set ?_ GE102.out) | exact HB.out)) hb); have n4_ := Aside0.mk (hbox); have n5_ := Aside0.mk ((by rw [hg]; exact (below_size (by repeat (first | (with_reducible first | exact HB.out | apply below_alloc | apply pw_below_drewN | apply below_drew1 | refine below_set ?_ GE101.out | refine below_set ?_ GE102.out) | exact HB.out))) : w.heap.size ≤ gb109)); have n6_ := Aside0.mk ((by rw [hg]; exact (below_size (by repeat (first | (with_reducible first | exact HB.out | apply below_alloc | apply pw_below_drewN | apply below_drew1 | refine below_set ?_ GE101.out | refine below_set ?_ GE102.out) | exact HB.out))) : w.heap.size ≤ gb109)); have n7_ := Aside0.mk ((by rw [hg]; exact Nat.ne_of_lt (blk_lt (g := gb101) (o := .cells #[.int .i64 a0_0, .int .i64 a0_1, .slice A0_2 l0_2.length c0_2] 28 (0, 0)) (by (with_reducible repeat (first | refine blk_drewN ?_ _ | refine blk_drew ?_ | refine blk_alloc ?_ _)); exact BK101.out)) : gb101 ≠ gb109)); have n8_ := Aside0.mk ((by rw [hg]; exact Nat.ne_of_gt (blk_lt (g := gb101) (o := .cells #[.int .i64 a0_0, .int .i64 a0_1, .slice A0_2 l0_2.length c0_2] 28 (0, 0)) (by (with_reducible repeat (first | refine blk_drewN ?_ _ | refine blk_drew ?_ | refine blk_alloc ?_ _)); exact BK101.out)) : gb109 ≠ gb101)); have n9_ := Aside0.mk ((by rw [hg]; exact Nat.ne_of_lt (blk_lt (g := gb102) (o := .cells #[.int .i64 0, .int .i64 0, .slice none 0 0] 28 (0, 0)) (by (with_reducible repeat (first | refine blk_drewN ?_ _ | refine blk_drew ?_ | refine blk_alloc ?_ _)); exact BK102.out)) : gb102 ≠ gb109)); have n10_ := Aside0.mk ((by rw [hg]; exact Nat.ne_of_gt (blk_lt (g := gb102) (o := .cells #[.int .i64 0, .int .i64 0, .slice none 0 0] 28 (0, 0)) (by (with_reducible repeat (first | refine blk_drewN ?_ _ | refine blk_drew ?_ | refine blk_alloc ?_ _)); exact BK102.out)) : gb109 ≠ gb102)); clear HO108; clear BK101; clear BK102; clear HB; have HO108 := n0_; have BK101 := n1_; have BK102 := n2_; have HB := n3_; have BK109 := n4_; have GW109 := n5_; have GE109 := n6_; have NB101_109 := n7_; have NB109_101 := n8_; have NB102_109 := n9_; have NB109_102 := n10_; clear n0_ n1_ n2_ n3_ n4_ n5_ n6_ n7_ n8_ n9_ n10_; clear hb hbox hg; have hnb13 := NB109_101.out; have hnc13 := NB101_109.out; have hnb14 := NB109_102.out; have hnc14 := NB102_109.out; have hcz15_0 : w12.cell? ⟨gb109, 0, none⟩ = some (.int .i64 0) := (blk_cell BK109.out 0).trans rfl; have hcz15_1 : w12.cell? ⟨gb109, 1, none⟩ = some (.int .i64 0) := (blk_cell BK109.out 1).trans rfl; have hcz15_2 : w12.cell? ⟨gb109, 2, none⟩ = some (.slice none 0 0) := (blk_cell BK109.out 2).trans rfl; have hfz15_0 := blk_frozen BK109.out 0; have hfz15_1 := blk_frozen BK109.out 1; have hfz15_2 := blk_frozen BK109.out 2; obtain ⟨Ao16, co16, eo16⟩ := Kd.N_slice HO108.out; subst eo16))
    go_loopg [15] k (fun kq v15 w' => ∃ (x15_1 : Int) (x110002_1 : List (S87)) (u110002 : Value), v15 = .int .i64 x15_1 ∧ Aside0 (spec_ReverseOf.l0 kq (t106.length : Int) x15_1 t104 t105 x110002_1 = some (r1, r2, r3, r4)) ∧ Aside0 (kq ≤ k) ∧ Aside0 (Kd.N k87 87 w' w.heap.size (fun k_ => (w.heap.size ≤ k_) ∧ k_ ≠ gb101 ∧ k_ ≠ gb102 ∧ k_ ≠ gb109) u110002 x110002_1) ∧ Aside0 (w'.heap[gb101]? = some (.cells #[.int .i64 a0_0, .int .i64 a0_1, (.slice A0_2 l0_2.length c0_2)] 28 (0, 0))) ∧ Aside0 (w'.heap[gb102]? = some (.cells #[.int .i64 0, .int .i64 0, (.slice none 0 0)] 28 (0, 0))) ∧ Aside0 (w'.heap[gb109]? = some (.cells #[.int .i64 t104, .int .i64 t105, u110002] 28 (0, 0))) ∧ Aside0 (Below w.heap.size w w'))
    case atStart => exact ⟨(0), (t106), (.slice Ao16 t106.length co16), (by first | rfl | (simp; done) | (simp [*]; done)), H', ⟨Nat.le_refl _⟩, ⟨by (with_reducible repeat (first | apply Kd.N_alloc | apply Kd.N_drewN | apply Kd.N_drew)); exact Kd.N_mono (Kd.N_far (p := ⟨gb109, 2, none⟩) (Kd.N_far (p := ⟨gb109, 1, none⟩) (Kd.N_far (p := ⟨gb109, 0, none⟩) (Kd.N_mono HO108.out (fun k_ hk => (⟨hk, hk.2⟩ : _ ∧ k_ ≠ gb109))) (fun _ hk => hk.2) (.int .i64 t104)) (fun _ hk => hk.2) (.int .i64 t105)) (fun _ hk => hk.2) (.slice Ao16 t106.length co16)) (fun _ hk => ⟨hk.1.1.1, ⟨hk.1.1.2.1, ⟨hk.1.1.2.2, hk.1.2⟩⟩⟩)⟩, ⟨by (with_reducible repeat (first | refine blk_drewN ?_ _ | refine blk_drew ?_ | refine blk_alloc ?_ _)); refine blk_far ?_ NB101_109.out _; (with_reducible repeat (first | refine blk_drewN ?_ _ | refine blk_drew ?_ | refine blk_alloc ?_ _)); refine blk_far ?_ NB101_109.out _; (with_reducible repeat (first | refine blk_drewN ?_ _ | refine blk_drew ?_ | refine blk_alloc ?_ _)); refine blk_far ?_ NB101_109.out _; (with_reducible repeat (first | refine blk_drewN ?_ _ | refine blk_drew ?_ | refine blk_alloc ?_ _)); exact BK101.out⟩, ⟨by (with_reducible repeat (first | refine blk_drewN ?_ _ | refine blk_drew ?_ | refine blk_alloc ?_ _)); refine blk_far ?_ NB102_109.out _; (with_reducible repeat (first | refine blk_drewN ?_ _ | refine blk_drew ?_ | refine blk_alloc ?_ _)); refine blk_far ?_ NB102_109.out _; (with_reducible repeat (first | refine blk_drewN ?_ _ | refine blk_drew ?_ | refine blk_alloc ?_ _)); refine blk_far ?_ NB102_109.out _; (with_reducible repeat (first | refine blk_drewN ?_ _ | refine blk_drew ?_ | refine blk_alloc ?_ _)); exact BK102.out⟩, ⟨by (with_reducible repeat (first | refine blk_drewN ?_ _ | refine blk_drew ?_ | refine blk_alloc ?_ _)); refine blk_put (cs := #[.int .i64 t104, .int .i64 t105, .slice none 0 0]) ?_ 2 _ rfl; (with_reducible repeat (first | refine blk_drewN ?_ _ | refine blk_drew ?_ | refine blk_alloc ?_ _)); refine blk_put (cs := #[.int .i64 t104, .int .i64 0, .slice none 0 0]) ?_ 1 _ rfl; (with_reducible repeat (first | refine blk_drewN ?_ _ | refine blk_drew ?_ | refine blk_alloc ?_ _)); refine blk_put (cs := #[.int .i64 0, .int .i64 0, .slice none 0 0]) ?_ 0 _ rfl; (with_reducible repeat (first | refine blk_drewN ?_ _ | refine blk_drew ?_ | refine blk_alloc ?_ _)); exact BK109.out⟩, ⟨by repeat (first | (with_reducible first | exact HB.out | apply below_alloc | apply pw_below_drewN | apply below_drew1 | refine below_set ?_ GE101.out | refine below_set ?_ GE102.out | refine below_set ?_ GE109.out) | exact HB.out)⟩⟩
    case round =>
      clear H'
      try clear c1
      try clear p2
      try clear c3
      try clear c4
      try clear c5
      try clear c7
      try clear c8
      try clear c13
      try clear c14
      try clear hcz10_0
      try clear hcz10_1
      try clear hcz10_2
      try clear hcz15_0
      try clear hcz15_1
      try clear hcz15_2
      try clear hcz8_0
      try clear hcz8_1
      try clear hcz8_2
      try clear hfz10_0
      try clear hfz10_1
      try clear hfz10_2
      try clear hfz15_0
      try clear hfz15_1
      try clear hfz15_2
      try clear hfz8_0
      try clear hfz8_1
      try clear hfz8_2
      obtain ⟨x15_1, x110002_1, u110002, rfl, HA, HK1, HO_110002, BK101, BK102, BK109, HB⟩ := hrel
      cases gk with
      | zero => exact absurd HA.out (by simp [spec_ReverseOf.l0])
      | succ k1 =>
        have H := HA.out
        clear HA
        simp only [spec_ReverseOf.l0] at H
        by_cases c17 : x15_1 < (t106.length : Int)
        · rw [if_pos c17] at H
          have c17b0 : decide (x15_1 < (t106.length : Int)) = true := decide_eq_true c17
          clear c17
          by_cases c18 : 0 ≤ x15_1
          · rw [if_pos c18] at H
            have c18b0 : decide (0 ≤ x15_1) = true := decide_eq_true c18
            clear c18
            by_cases c19 : x15_1 < (x110002_1.length : Int)
            · rw [if_pos c19] at H
              have c19b0 : decide (x15_1 < (x110002_1.length : Int)) = true := decide_eq_true c19
              clear c19
              replace H := Option.bind_eq_some_iff.mp H
              obtain ⟨t111, A200, H⟩ := H
              replace H : (spec_ReverseOf.l0 k1 (t106.length : Int) (wrap64 (x15_1 + 1)) t104 t105 (x110002_1.set (x15_1 : Int).toNat (⟨(rd_T87 x110002_1 x15_1).f0, t111⟩ : S87))) = some (r1, r2, r3, r4) := H
              have A20 := Aside0.mk A200
              clear A200
              obtain ⟨y114, hy114⟩ : ∃ y_ : List (S87), y_ = (x110002_1.set (x15_1 : Int).toNat (⟨(rd_T87 x110002_1 x15_1).f0, t111⟩ : S87)) := ⟨_, rfl⟩
              replace H : (spec_ReverseOf.l0 k1 (t106.length : Int) (wrap64 (x15_1 + 1)) t104 t105 y114) = some (r1, r2, r3, r4) := by first | (rw [hy114]; with_reducible exact H) | (have H2_ := (Option.bind_some _ _).symm.trans H; rw [hy114]; with_reducible exact H2_) | (have H2_ := (Option.bind_some _ _).symm.trans H; with_reducible exact H2_) | with_reducible exact H | (rw [hy114]; exact H) | exact H
              have Ny114 := Aside0.mk hy114
              clear hy114
              have H' := Aside0.mk H
              clear H
              try go_wp2
              have n0_ := Aside0.mk (Kd.N_drew HO_110002.out)
              have n1_ := Aside0.mk (blk_drew BK101.out)
              have n2_ := Aside0.mk (blk_drew BK102.out)
              have n3_ := Aside0.mk (blk_drew BK109.out)
              have n4_ := Aside0.mk (below_drew1 HB.out)
              clear HO_110002
              clear BK101
              clear BK102
              clear BK109
              clear HB
              have HO_110002 := n0_
              have BK101 := n1_
              have BK102 := n2_
              have BK109 := n3_
              have HB := n4_
              clear n0_ n1_ n2_ n3_ n4_
              obtain ⟨Ao23, co23, eo23⟩ := Kd.N_slice HO_110002.out
              (first | subst eo23 | (injection eo23 with f1_ f2_ f3_; have f4_ := f1_.symm; have f5_ := f3_.symm; clear f1_ f2_ f3_; subst f4_; subst f5_))
              have p110 : 0 ≤ (x15_1 : Int) := of_decide_eq_true (by first | (with_reducible assumption) | assumption)
              have q110 : x15_1 < (x110002_1.length : Int) := of_decide_eq_true (by first | (with_reducible assumption) | assumption)
              obtain ⟨ad110, A110_1, c110_1, e110, hx110_0, hx110_1, hl110_1, hi110_1⟩ := at_T87 (Kd.N_reads' HO_110002.out).2.2 x15_1 p110 q110
              cases e110
              obtain ⟨ce110, hce110, hMe110, hcc110⟩ := Kd.N_get HO_110002.out z87 x15_1 p110 (by first | exact q110 | exact of_decide_eq_true (by first | (with_reducible assumption) | assumption) | (have e_ := (Kd.N_reads' HO_110002.out).1; omega))
              obtain ⟨ua110_1, uc110_1, rfl, ul110_1, ge110_1⟩ := k87_openF hMe110
              have hv110_1 := hcc110 1 _ rfl
              rw [add_field _ _ 1 (by omega)] at hv110_1
              replace hv110_1 := Option.some.inj (hv110_1.symm.trans hx110_1)
              injection hv110_1 with hva_ hvn_ hvc_
              rw [hva_] at ge110_1
              rw [hvc_] at ul110_1
              have HL110_1 := Aside0.mk (show Kd.V (Kd.int .i64) 3 _ w.heap.size _ _ ((rd_T87 x110002_1 x15_1).f1) from Kd.V_mk ul110_1 ge110_1)
              clear hva_ hvn_ hvc_ ge110_1 ul110_1
              clear hcc110 hce110
              have HR110_1 := Aside0.mk hi110_1
              have HC110_1 := Aside0.mk hl110_1
              clear hi110_1 hl110_1
              replace p110 := eq_true p110
              replace q110 := eq_true q110
              refine start_ (n := 13) (S := fun w' => w'.cell? ⟨gb109, 0, none⟩ = some (.int .i64 t104) ∧ w'.cell? ⟨gb109, 1, none⟩ = some (.int .i64 t105) ∧ w'.cell? ⟨gb109, 2, none⟩ = some (.slice (some ad110) x110002_1.length co23) ∧ w'.cell? (ad110.add ((x15_1).toNat * 2)) = some (.int .i64 ((rd_T87 x110002_1 x15_1).f0)) ∧ w'.cell? ⟨(ad110.add ((x15_1).toNat * 2)).block, (ad110.add ((x15_1).toNat * 2)).off + 1, none⟩ = some (.slice A110_1 ((rd_T87 x110002_1 x15_1).f1).length c110_1)) (ds := [12]) #[false, false, false, false, false, false, false, false, false, false, false, false, false] (by kernel_rfl) rfl rfl ⟨(blk_cell BK109.out 0).trans rfl, (blk_cell BK109.out 1).trans rfl, (blk_cell BK109.out 2).trans rfl, hx110_0, hx110_1⟩ (fun hHeld => ?_); refine with_tabW spec_ReverseOf.tab7 spec_ReverseOf.bits7 (fun HT_ HW_ => ?_)
              generalize wr.drew = w22 at HO_110002 BK101 BK102 BK109 HB HL110_1 HR110_1 hx110_0 hx110_1 hHeld ⊢
              refine pure_ (i := 0) (N := some 18) (v := ?_) (a' := ?_) #[true, false, false, false, false, false, false, false, false, false, false, false, false] rfl rfl (any_of HT_.out (by kernel_rfl)) (fun _ _ _ h => h) (Or.inl ⟨by rfl, ?_⟩) ?_ ?_
              rotate_left
              · intro w'
                go_simp
                with_reducible rfl
              rotate_left
              · simp only [Act.put, List.setIfInBounds_toArray, List.set_cons_zero, List.set_cons_succ, i64_w, i32_w]
                rfl
              refine pure_ (i := 2) (N := some 20) (v := ?_) (a' := ?_) #[true, false, true, false, false, false, false, false, false, false, false, false, false] rfl rfl (any_of HT_.out (by kernel_rfl)) (fun _ _ _ h => h) (Or.inl ⟨by rfl, ?_⟩) ?_ ?_
              rotate_left
              · intro w'
                go_simp
                with_reducible rfl
              rotate_left
              · simp only [Act.put, List.setIfInBounds_toArray, List.set_cons_zero, List.set_cons_succ, i64_w, i32_w]
                rfl
              refine pure_ (i := 3) (N := some 21) (v := ?_) (a' := ?_) #[true, false, true, true, false, false, false, false, false, false, false, false, false] rfl rfl (any_of HT_.out (by kernel_rfl)) (fun _ _ _ h => h) (Or.inl ⟨by rfl, ?_⟩) ?_ ?_
              rotate_left
              · intro w'
                go_simp
                with_reducible rfl
              rotate_left
              · simp only [Act.put, List.setIfInBounds_toArray, List.set_cons_zero, List.set_cons_succ, i64_w, i32_w]
                rfl
              refine pure_ (i := 5) (N := some 23) (v := ?_) (a' := ?_) #[true, false, true, true, false, true, false, false, false, false, false, false, false] rfl rfl (any_of HT_.out (by kernel_rfl)) (fun _ _ _ h => h) (Or.inl ⟨by rfl, ?_⟩) ?_ ?_
              rotate_left
              · intro w'
                go_simp
                with_reducible rfl
              rotate_left
              · simp only [Act.put, List.setIfInBounds_toArray, List.set_cons_zero, List.set_cons_succ, i64_w, i32_w]
                rfl
              refine take_ (i := 1) (N := some 19) (v := ?_) (a' := ?_) #[true, true, true, true, false, true, false, false, false, false, false, false, false] rfl rfl (take_ofW HT_.out HW_.out (by kernel_rfl)) (fun _ _ _ h => h) (Or.inl ⟨by rfl, ?_⟩) hHeld ?_ ?_
              rotate_left
              · rintro w' ⟨s0, s1, s2, s3, s4⟩
                go_simp
                with_reducible rfl
              rotate_left
              · simp only [Act.put, List.setIfInBounds_toArray, List.set_cons_zero, List.set_cons_succ, i64_w, i32_w]
                rfl
              refine take_ (i := 4) (N := some 22) (v := ?_) (a' := ?_) #[true, true, true, true, true, true, false, false, false, false, false, false, false] rfl rfl (take_ofW HT_.out HW_.out (by kernel_rfl)) (fun _ _ _ h => h) (Or.inl ⟨by rfl, ?_⟩) hHeld ?_ ?_
              rotate_left
              · rintro w' ⟨s0, s1, s2, s3, s4⟩
                go_simp
                with_reducible rfl
              rotate_left
              · simp only [Act.put, List.setIfInBounds_toArray, List.set_cons_zero, List.set_cons_succ, i64_w, i32_w]
                rfl
              refine pure_ (i := 6) (N := some 24) (v := ?_) (a' := ?_) #[true, true, true, true, true, true, true, false, false, false, false, false, false] rfl rfl (any_of HT_.out (by kernel_rfl)) (fun _ _ _ h => h) (Or.inl ⟨by rfl, ?_⟩) ?_ ?_
              rotate_left
              · intro w'
                go_simp
                with_reducible rfl
              rotate_left
              · simp only [Act.put, List.setIfInBounds_toArray, List.set_cons_zero, List.set_cons_succ, i64_w, i32_w]
                rfl
              refine pure_ (i := 7) (N := some 25) (v := ?_) (a' := ?_) #[true, true, true, true, true, true, true, true, false, false, false, false, false] rfl rfl (any_of HT_.out (by kernel_rfl)) (fun _ _ _ h => h) (Or.inl ⟨by rfl, ?_⟩) ?_ ?_
              rotate_left
              · intro w'
                go_simp
                with_reducible rfl
              rotate_left
              · simp only [Act.put, List.setIfInBounds_toArray, List.set_cons_zero, List.set_cons_succ, i64_w, i32_w]
                rfl
              refine take_ (i := 8) (N := some 26) (v := ?_) (a' := ?_) #[true, true, true, true, true, true, true, true, true, false, false, false, false] rfl rfl (take_ofW HT_.out HW_.out (by kernel_rfl)) (fun _ _ _ h => h) (Or.inl ⟨by rfl, ?_⟩) hHeld ?_ ?_
              rotate_left
              · rintro w' ⟨s0, s1, s2, s3, s4⟩
                go_simp
                with_reducible rfl
              rotate_left
              · simp only [Act.put, List.setIfInBounds_toArray, List.set_cons_zero, List.set_cons_succ, i64_w, i32_w]
                rfl
              refine one_ (i := 9) (N := some 27) #[true, true, true, true, true, true, true, true, true, true, false, false, false] rfl rfl (one_of HT_.out (by kernel_rfl)) (by decide) (fun K hK => ?_)
              refine goes_ Try.func83 (by kernel_rfl) rfl #[.slice A110_1 ((rd_T87 x110002_1 x15_1).f1).length c110_1] (by rfl) rfl rfl (by (try simp only [List.map_toArray, List.map_cons, List.map_nil]); first | done | rfl | (simp only [List.length_drop, List.length_take]; rfl)) ?_
              with_reducible refine (spec_l1Turned.calls k1 _ _ ((rd_T87 x110002_1 x15_1).f1) t111 _ ?side1 ?side2 A20.out).mono ?_
              (case side1 => repeat (first | exact (by repeat (first | (with_reducible exact HR110_1.out) | (with_reducible refine Kd.C_alloc ?_ _) | (with_reducible refine Kd.C_drewN ?_ _) | (with_reducible refine Kd.C_drew ?_) | exact HR110_1.out)) | (with_reducible refine Kd.C_alloc ?_ _) | (with_reducible refine Kd.C_drewN ?_ _) | (with_reducible refine Kd.C_drew ?_)))
              (case side2 => exact HC110_1.out)
              rintro e w24 ⟨v112, rfl, ho0, hb⟩
              have HS3_ := (hb.cell (World.block_lt_of_cell? _ _ (hHeld.2.2.2.1))).trans (hHeld.2.2.2.1)
              have HS4_ := (hb.cell (World.block_lt_of_cell? _ _ (hHeld.2.2.2.2))).trans (hHeld.2.2.2.2)
              refine ⟨_, rfl, ?_⟩
              have n0_ := Aside0.mk (Kd.N_elder' (by (with_reducible repeat (first | apply Kd.N_alloc | apply Kd.N_drewN | apply Kd.N_drew)); exact HO_110002.out) (Kd.R_base ho0) hb)
              have n1_ := Aside0.mk (Kd.V_elder' (by (with_reducible repeat (first | apply Kd.V_alloc | apply Kd.V_drewN | apply Kd.V_drew)); exact HL110_1.out) (Kd.R_base ho0) hb)
              have n2_ := Aside0.mk (Kd.R_lower (Kd.R_newM (M := fun k_ => (w.heap.size ≤ k_)) ho0 (below_size (by repeat (first | (with_reducible first | exact HB.out | apply below_alloc | apply pw_below_drewN | apply below_drew1 | refine below_set ?_ GE101.out | refine below_set ?_ GE102.out | refine below_set ?_ GE109.out) | exact HB.out))) (fun k_ h_ => h_)) (below_size (by repeat (first | (with_reducible first | exact HB.out | apply below_alloc | apply pw_below_drewN | apply below_drew1 | refine below_set ?_ GE101.out | refine below_set ?_ GE102.out | refine below_set ?_ GE109.out) | exact HB.out))))
              have n3_ := Aside0.mk (blk_below (g := gb101) (o := .cells #[.int .i64 a0_0, .int .i64 a0_1, .slice A0_2 l0_2.length c0_2] 28 (0, 0)) (by (with_reducible repeat (first | refine blk_drewN ?_ _ | refine blk_drew ?_ | refine blk_alloc ?_ _)); exact BK101.out) hb)
              have n4_ := Aside0.mk (blk_below (g := gb102) (o := .cells #[.int .i64 0, .int .i64 0, .slice none 0 0] 28 (0, 0)) (by (with_reducible repeat (first | refine blk_drewN ?_ _ | refine blk_drew ?_ | refine blk_alloc ?_ _)); exact BK102.out) hb)
              have n5_ := Aside0.mk (blk_below (g := gb109) (o := .cells #[.int .i64 t104, .int .i64 t105, .slice (some ad110) x110002_1.length co23] 28 (0, 0)) (by (with_reducible repeat (first | refine blk_drewN ?_ _ | refine blk_drew ?_ | refine blk_alloc ?_ _)); exact BK109.out) hb)
              have n6_ := Aside0.mk (Kd.C_below (by repeat (first | (with_reducible exact HR110_1.out) | (with_reducible refine Kd.C_alloc ?_ _) | (with_reducible refine Kd.C_drewN ?_ _) | (with_reducible refine Kd.C_drew ?_) | exact HR110_1.out)) hb)
              have n7_ := Aside0.mk (below_step (by repeat (first | (with_reducible first | exact HB.out | apply below_alloc | apply pw_below_drewN | apply below_drew1 | refine below_set ?_ GE101.out | refine below_set ?_ GE102.out | refine below_set ?_ GE109.out) | exact HB.out)) hb)
              clear HO_110002
              clear HL110_1
              clear BK101
              clear BK102
              clear BK109
              clear HR110_1
              clear HB
              have HO_110002 := n0_
              have HL110_1 := n1_
              have HO113 := n2_
              have BK101 := n3_
              have BK102 := n4_
              have BK109 := n5_
              have HR110_1 := n6_
              have HB := n7_
              clear n0_ n1_ n2_ n3_ n4_ n5_ n6_ n7_
              obtain ⟨Ao112, co112, eo112⟩ := Kd.R_slice HO113.out
              subst eo112
              (try clear hb)
              (try clear hb2)
              (try clear hk)
              (try clear hi)
              (try clear ho0)
              have p21 : 0 ≤ (x15_1 : Int) := of_decide_eq_true (by first | (with_reducible assumption) | assumption)
              have q21 : (x15_1 : Int) < ((x110002_1.length : Int) : Int) := of_decide_eq_true (by first | (with_reducible assumption) | assumption)
              obtain ⟨go21, co21, eo21, gb21, gl21, cl21, HG21⟩ := Kd.N_form HO_110002.out (by omega)
              (first | cases eo21 | (injection eo21 with ea_ en_ ec_; (first | subst ea_ | (injection ea_ with ea_; subst ea_)); subst ec_; clear en_))
              have GB21 := Aside0.mk gb21
              have GG21 := Aside0.mk HG21
              clear gb21 gl21 HG21
              (first | simp only [add_plain] at hx110_0 | skip)
              (first | simp only [add_plain] at hx110_1 | skip)
              obtain ⟨ce21, hcl21, hM21, hcc21, hfr21⟩ := Kd.N_elem HO_110002.out z87 (x15_1 : Int) p21 q21
              obtain ⟨ua21_1, uc21_1, rfl, ul21_1, ge21_1⟩ := k87_openF hM21
              have hx21_0 : World.cell? _ ⟨go21, (x15_1 : Int).toNat * 2, none⟩ = some (.int .i64 ((rd_T87 x110002_1 x15_1).f0)) := hcc21 0 _ rfl
              have hx21_1 : World.cell? _ ⟨go21, (x15_1 : Int).toNat * 2 + 1, none⟩ = some (.slice ua21_1 ((rd_T87 x110002_1 x15_1).f1).length uc21_1) := hcc21 1 _ rfl
              have hf21_0 : World.frozen? _ ⟨go21, (x15_1 : Int).toNat * 2, none⟩ = false := hfr21 0
              have hf21_1 : World.frozen? _ ⟨go21, (x15_1 : Int).toNat * 2 + 1, none⟩ = false := hfr21 1
              clear hcl21 hcc21 hfr21; (try clear hM21)
              replace p21 := eq_true p21
              replace q21 := eq_true q21
              have HX25 := Aside0.mk (show Kd.N k87 87 _ w.heap.size (fun k_ => (w.heap.size ≤ k_) ∧ some k_ ≠ ((.slice Ao112 t111.length co112) : Value).ownBlock ∧ k_ ≠ gb101 ∧ k_ ≠ gb102 ∧ k_ ≠ gb109) (.slice (some ⟨go21, 0, none⟩) x110002_1.length co23) x110002_1 from (Kd.N_mono (HO_110002.out) (fun k_ hk => ⟨hk.1.1, ⟨hk.2, ⟨hk.1.2.1, ⟨hk.1.2.2.1, hk.1.2.2.2⟩⟩⟩⟩)))
              replace HX25 := Aside0.mk (show Kd.N k87 87 _ w.heap.size (fun k_ => (w.heap.size ≤ k_) ∧ k_ ≠ gb101 ∧ k_ ≠ gb102 ∧ k_ ≠ gb109) (.slice (some ⟨go21, 0, none⟩) x110002_1.length co23) x110002_1 from Kd.N_mono HX25.out (fun k_ hk => ⟨hk.1, ⟨hk.2.2.1, ⟨hk.2.2.2.1, hk.2.2.2.2⟩⟩⟩))
              obtain ⟨ce25, hcl25, hM25, hcc25, hfr25⟩ := Kd.N_elem HX25.out z87 (x15_1 : Int) (of_decide_eq_true (by first | (with_reducible assumption) | assumption)) (by have h_ : (x15_1 : Int) < ((x110002_1.length : Int) : Int) := of_decide_eq_true (by first | (with_reducible assumption) | assumption); first | exact h_ | (have e_ := (Kd.N_reads' HO_110002.out).1; omega) | simpa using h_)
              obtain ⟨ua25_1, uc25_1, rfl, ul25_1, ge25_1⟩ := k87_openF hM25
              have hap1_ := (Kd.R_types (Kd.R_types (Kd.R_types (Kd.R_apart' (HO113.out) (Kd.N_typed HO_110002.out) (by decide)) BK101.out (by decide)) BK102.out (by decide)) BK109.out (by decide))
              have hmo1_ := (Kd.R_mono (ok' := (fun k_ => ((fun k_ => (w.heap.size ≤ k_) ∧ k_ ≠ gb101 ∧ k_ ≠ gb102 ∧ k_ ≠ gb109)) k_ ∧ k_ ≠ go21)) hap1_ (fun k_ hk => ⟨⟨hk.1.1.1.1.1, ⟨hk.1.1.2, ⟨hk.1.2, hk.2⟩⟩⟩, fun e_ => (hk.1.1.1.2) (by rw [e_]; rfl)⟩))
              have HP25 := (Kd.N_seg HX25.out (x15_1 : Int) (of_decide_eq_true (by first | (with_reducible assumption) | assumption)) (by have h_ : (x15_1 : Int) < ((x110002_1.length : Int) : Int) := of_decide_eq_true (by first | (with_reducible assumption) | assumption); first | exact h_ | (have e_ := (Kd.N_reads' HO_110002.out).1; omega) | simpa using h_) (seg := [(.slice Ao112 t111.length co112)]) (j := 1) hcl25 hcc25 (show 2 ≤ 2 from by decide) (x' := (⟨(rd_T87 x110002_1 x15_1).f0, t111⟩ : S87)) (k87_mkF _ _ (⟨(rd_T87 x110002_1 x15_1).f0, t111⟩ : S87) (Kd.R_reads' hmo1_).2.1 (Kd.R_F hmo1_)) (fun _ hk => hk)).1
              rw [← Ny114.out] at HP25
              have HQ25 := Aside0.mk HP25
              clear hcl25 hcc25 hfr25 HP25 hM25
              refine hK.out _ _ ⟨(blk_cell BK109.out 0).trans rfl, (blk_cell BK109.out 1).trans rfl, (blk_cell BK109.out 2).trans rfl, HS3_, HS4_⟩ (fun hHeld => ?_)
              clear hK K
              refine norm_ (a' := ?_) ?_ ?_
              rotate_left
              · show Act.put _ (some 27) _ = _
                simp only [Act.put, List.setIfInBounds_toArray, List.set_cons_zero, List.set_cons_succ, i64_w, i32_w]
                rfl
              refine pure_ (i := 10) (N := some 28) (v := ?_) (a' := ?_) #[true, true, true, true, true, true, true, true, true, true, true, false, false] rfl rfl (any_of HT_.out (by kernel_rfl)) (fun _ _ _ h => h) (Or.inl ⟨by rfl, ?_⟩) ?_ ?_
              rotate_left
              · intro w'
                go_simp
                with_reducible rfl
              rotate_left
              · simp only [Act.put, List.setIfInBounds_toArray, List.set_cons_zero, List.set_cons_succ, i64_w, i32_w]
                rfl
              refine pure_ (i := 11) (N := some 29) (v := ?_) (a' := ?_) #[true, true, true, true, true, true, true, true, true, true, true, true, false] rfl rfl (any_of HT_.out (by kernel_rfl)) (fun _ _ _ h => h) (Or.inl ⟨by rfl, ?_⟩) ?_ ?_
              rotate_left
              · intro w'
                go_simp
                with_reducible rfl
              rotate_left
              · simp only [Act.put, List.setIfInBounds_toArray, List.set_cons_zero, List.set_cons_succ, i64_w, i32_w]
                rfl
              refine last_ (i := 12) (N := none) #[true, true, true, true, true, true, true, true, true, true, true, true, true] rfl rfl (one_of HT_.out (by kernel_rfl)) (by decide) (fun K hK => ?_)
              refine skip_ (w1 := ?_) (by rfl) rfl ?_ ?_
              rotate_left
              · go_simp
                rfl
              refine hK.out _ _ ?_
              clear hK K
              refine done_ (done_of HT_.out (by kernel_rfl)) ?_
              try go_wp2
              go_roundg k1
              case measure => have := HK1.out; omega
              case rel => exact ⟨(wrap64 (x15_1 + 1)), (y114), (.slice (some ⟨go21, 0, none⟩) x110002_1.length co23), (by first | rfl | (simp; done) | (simp [*]; done)), H', ⟨by have := HK1.out; omega⟩, ⟨by (with_reducible repeat (first | apply Kd.N_alloc | apply Kd.N_drewN | apply Kd.N_drew)); exact HQ25.out⟩, ⟨by (with_reducible repeat (first | refine blk_drewN ?_ _ | refine blk_drew ?_ | refine blk_alloc ?_ _)); refine blk_far ?_ (by have h_ := Kd.N_away HO_110002.out (fun _ hk => by first | exact hk.2.1 | exact hk.1.2.1); intro e_; exact h_ (by rw [e_]; rfl)) _; (with_reducible repeat (first | refine blk_drewN ?_ _ | refine blk_drew ?_ | refine blk_alloc ?_ _)); exact BK101.out⟩, ⟨by (with_reducible repeat (first | refine blk_drewN ?_ _ | refine blk_drew ?_ | refine blk_alloc ?_ _)); refine blk_far ?_ (by have h_ := Kd.N_away HO_110002.out (fun _ hk => by first | exact hk.2.2.1 | exact hk.1.2.2.1); intro e_; exact h_ (by rw [e_]; rfl)) _; (with_reducible repeat (first | refine blk_drewN ?_ _ | refine blk_drew ?_ | refine blk_alloc ?_ _)); exact BK102.out⟩, ⟨by (with_reducible repeat (first | refine blk_drewN ?_ _ | refine blk_drew ?_ | refine blk_alloc ?_ _)); refine blk_far ?_ (by have h_ := Kd.N_away HO_110002.out (fun _ hk => by first | exact hk.2.2.2 | exact hk.1.2.2.2); intro e_; exact h_ (by rw [e_]; rfl)) _; (with_reducible repeat (first | refine blk_drewN ?_ _ | refine blk_drew ?_ | refine blk_alloc ?_ _)); exact BK109.out⟩, ⟨by repeat (first | (with_reducible first | exact HB.out | apply below_alloc | apply pw_below_drewN | apply below_drew1 | refine below_set ?_ GB21.out | refine below_set ?_ GE101.out | refine below_set ?_ GE102.out | refine below_set ?_ GE109.out) | exact HB.out)⟩⟩
            · rw [if_neg c19] at H
              exact absurd H (by simp)
          · rw [if_neg c18] at H
            exact absurd H (by simp)
        · rw [if_neg c17] at H
          have c17b0 : decide (x15_1 < (t106.length : Int)) = false := decide_eq_false c17
          clear c17
          simp only [Option.some.injEq, Prod.mk.injEq] at H
          obtain ⟨rfl, rfl, rfl, rfl⟩ := H
          have hnb26 := NB109_101.out
          have hnc26 := NB101_109.out
          have hnb27 := NB109_102.out
          have hnc27 := NB102_109.out
          have hcz28_0 : wr.cell? ⟨gb109, 0, none⟩ = some (.int .i64 t104) := (blk_cell BK109.out 0).trans rfl
          have hcz28_1 : wr.cell? ⟨gb109, 1, none⟩ = some (.int .i64 t105) := (blk_cell BK109.out 1).trans rfl
          have hcz28_2 : wr.cell? ⟨gb109, 2, none⟩ = some (u110002) := (blk_cell BK109.out 2).trans rfl
          have hfz28_0 := blk_frozen BK109.out 0
          have hfz28_1 := blk_frozen BK109.out 1
          have hfz28_2 := blk_frozen BK109.out 2
          have hnb29 := NB102_101.out
          have hnc29 := NB101_102.out
          have hcz30_0 : wr.cell? ⟨gb102, 0, none⟩ = some (.int .i64 0) := (blk_cell BK102.out 0).trans rfl
          have hcz30_1 : wr.cell? ⟨gb102, 1, none⟩ = some (.int .i64 0) := (blk_cell BK102.out 1).trans rfl
          have hcz30_2 : wr.cell? ⟨gb102, 2, none⟩ = some (.slice none 0 0) := (blk_cell BK102.out 2).trans rfl
          have hfz30_0 := blk_frozen BK102.out 0
          have hfz30_1 := blk_frozen BK102.out 1
          have hfz30_2 := blk_frozen BK102.out 2
          obtain ⟨Ao31, co31, eo31⟩ := Kd.N_slice HO_110002.out
          subst eo31
          go_wp2
          refine bodyPost_ret (results_ct rfl _ _ gb102 28 #[.int .i64 t104, .int .i64 t105, .slice Ao31 x110002_1.length co31] (0, 0) _ rfl (by (with_reducible repeat (first | refine blk_drewN ?_ _ | refine blk_drew ?_ | refine blk_alloc ?_ _)); refine blk_put (cs := #[.int .i64 t104, .int .i64 t105, .slice none 0 0]) ?_ 2 _ rfl; (with_reducible repeat (first | refine blk_drewN ?_ _ | refine blk_drew ?_ | refine blk_alloc ?_ _)); refine blk_put (cs := #[.int .i64 t104, .int .i64 0, .slice none 0 0]) ?_ 1 _ rfl; (with_reducible repeat (first | refine blk_drewN ?_ _ | refine blk_drew ?_ | refine blk_alloc ?_ _)); refine blk_put (cs := #[.int .i64 0, .int .i64 0, .slice none 0 0]) ?_ 0 _ rfl; (with_reducible repeat (first | refine blk_drewN ?_ _ | refine blk_drew ?_ | refine blk_alloc ?_ _)); exact BK102.out) Try.underlying28 rfl (by kernel_rfl)) rfl ?_
          exact ⟨_, by first | rfl | (simp [errW_none, errW_some] <;> rfl) | (simp [*, errW_none, errW_some] <;> rfl), by (with_reducible repeat (first | apply Kd.N_alloc | apply Kd.N_drewN | apply Kd.N_drew)); exact Kd.N_mono (Kd.N_far (p := ⟨gb102, 2, none⟩) (Kd.N_far (p := ⟨gb102, 1, none⟩) (Kd.N_far (p := ⟨gb102, 0, none⟩) (Kd.N_mono HO_110002.out (fun k_ hk => (⟨hk, hk.2.2.1⟩ : _ ∧ k_ ≠ gb102))) (fun _ hk => hk.2) (.int .i64 t104)) (fun _ hk => hk.2) (.int .i64 t105)) (fun _ hk => hk.2) (.slice Ao31 x110002_1.length co31)) (fun _ hk => hk.1.1), by repeat (first | (with_reducible first | exact HB.out | apply below_alloc | apply pw_below_drewN | apply below_drew1 | refine below_set ?_ GE101.out | refine below_set ?_ GE102.out | refine below_set ?_ GE109.out) | exact HB.out)⟩
  · replace c3 := Bool.eq_false_iff.mpr c3
    subst c3
    have H1 : (some (0, 0, ([] : List (S87)), false)) = some (r1, r2, r3, r4) := by rw [if_neg (show ¬ (false = true) by decide)] at H; exact H
    clear H
    have H := H1
    clear H1
    simp only [Option.some.injEq, Prod.mk.injEq] at H
    obtain ⟨rfl, rfl, rfl, rfl⟩ := H
    go_enter Try.func47, Try.ntmps47
    go_wp2_with (first | ((with_reducible refine gate_dst (N := 1) rfl ?_); refine box_event ?hg (N := 1) ?hd (cs := #[.int .i64 a0_0, .int .i64 a0_1, .slice A0_2 l0_2.length c0_2]) (t := 28) ?hr ?_; (case hd => rfl); (case hg => rfl); (case hr => first | (go_simp; done) | (go_simp; rfl)); intro gb101 hg w32 hbox hb; have n0_ := Aside0.mk (below_step (by repeat (first | (with_reducible first | exact HB.out | apply below_alloc | apply pw_below_drewN | apply below_drew1) | exact HB.out)) hb); have n1_ := Aside0.mk (hbox); have n2_ := Aside0.mk ((by rw [hg]; exact (below_size (by repeat (first | (with_reducible first | exact HB.out | apply below_alloc | apply pw_below_drewN | apply below_drew1) | exact HB.out))) : w.heap.size ≤ gb101)); have n3_ := Aside0.mk ((by rw [hg]; exact (below_size (by repeat (first | (with_reducible first | exact HB.out | apply below_alloc | apply pw_below_drewN | apply below_drew1) | exact HB.out))) : w.heap.size ≤ gb101)); clear HB; have HB := n0_; have BK101 := n1_; have GW101 := n2_; have GE101 := n3_; clear n0_ n1_ n2_ n3_; clear hb hbox hg) | ((with_reducible refine gate_dst (N := 2) rfl ?_); refine box_event ?hg (N := 2) ?hd (cs := #[.int .i64 0, .int .i64 0, .slice none 0 0]) (t := 28) ?hr ?_; (case hd => rfl); (case hg => rfl); (case hr => first | (go_simp; done) | (go_simp; rfl)); intro gb102 hg w33 hbox hb; have n0_ := Aside0.mk (blk_below (g := gb101) (o := .cells #[.int .i64 a0_0, .int .i64 a0_1, .slice A0_2 l0_2.length c0_2] 28 (0, 0)) (by (with_reducible repeat (first | refine blk_drewN ?_ _ | refine blk_drew ?_ | refine blk_alloc ?_ _)); exact BK101.out) hb); have n1_ := Aside0.mk (below_step (by repeat (first | (with_reducible first | exact HB.out | apply below_alloc | apply pw_below_drewN | apply below_drew1 | refine below_set ?_ GE101.out) | exact HB.out)) hb); have n2_ := Aside0.mk (hbox); have n3_ := Aside0.mk ((by rw [hg]; exact (below_size (by repeat (first | (with_reducible first | exact HB.out | apply below_alloc | apply pw_below_drewN | apply below_drew1 | refine below_set ?_ GE101.out) | exact HB.out))) : w.heap.size ≤ gb102)); have n4_ := Aside0.mk ((by rw [hg]; exact (below_size (by repeat (first | (with_reducible first | exact HB.out | apply below_alloc | apply pw_below_drewN | apply below_drew1 | refine below_set ?_ GE101.out) | exact HB.out))) : w.heap.size ≤ gb102)); have n5_ := Aside0.mk ((by rw [hg]; exact Nat.ne_of_lt (blk_lt (g := gb101) (o := .cells #[.int .i64 a0_0, .int .i64 a0_1, .slice A0_2 l0_2.length c0_2] 28 (0, 0)) (by (with_reducible repeat (first | refine blk_drewN ?_ _ | refine blk_drew ?_ | refine blk_alloc ?_ _)); exact BK101.out)) : gb101 ≠ gb102)); have n6_ := Aside0.mk ((by rw [hg]; exact Nat.ne_of_gt (blk_lt (g := gb101) (o := .cells #[.int .i64 a0_0, .int .i64 a0_1, .slice A0_2 l0_2.length c0_2] 28 (0, 0)) (by (with_reducible repeat (first | refine blk_drewN ?_ _ | refine blk_drew ?_ | refine blk_alloc ?_ _)); exact BK101.out)) : gb102 ≠ gb101)); clear BK101; clear HB; have BK101 := n0_; have HB := n1_; have BK102 := n2_; have GW102 := n3_; have GE102 := n4_; have NB101_102 := n5_; have NB102_101 := n6_; clear n0_ n1_ n2_ n3_ n4_ n5_ n6_; clear hb hbox hg; have hnb34 := NB101_102.out; have hnc34 := NB102_101.out; have hcz35_0 : w33.cell? ⟨gb101, 0, none⟩ = some (.int .i64 a0_0) := (blk_cell BK101.out 0).trans rfl; have hcz35_1 : w33.cell? ⟨gb101, 1, none⟩ = some (.int .i64 a0_1) := (blk_cell BK101.out 1).trans rfl; have hcz35_2 : w33.cell? ⟨gb101, 2, none⟩ = some (.slice A0_2 l0_2.length c0_2) := (blk_cell BK101.out 2).trans rfl; have hfz35_0 := blk_frozen BK101.out 0; have hfz35_1 := blk_frozen BK101.out 1; have hfz35_2 := blk_frozen BK101.out 2) | ((with_reducible refine gate_callee (f := 52) rfl ?_); refine goesL_ (some 7) rfl rfl Try.func52 (by kernel_rfl) rfl #[.agg #[.int .i64 a0_0, .int .i64 a0_1, .slice A0_2 l0_2.length c0_2]] rfl (by (try simp only [List.map_toArray, List.map_cons, List.map_nil]); first | done | rfl | (simp only [List.length_drop, List.length_take]; rfl)) ?_; (with_reducible refine (spec_GoodGrammar.calls k a0_0 a0_1 _ _ l0_2 false _ ?side1 ?side2 A2.out).mono ?_); (case side1 => repeat (first | exact (Kd.C_below HR0_2.out HB.out) | (with_reducible refine Kd.C_alloc ?_ _) | (with_reducible refine Kd.C_drewN ?_ _) | (with_reducible refine Kd.C_drew ?_))); (case side2 => exact HC0_2.out); rintro e w36 ⟨rfl, hb⟩; refine ⟨_, rfl, ?_⟩; have n0_ := Aside0.mk (blk_below (g := gb101) (o := .cells #[.int .i64 a0_0, .int .i64 a0_1, .slice A0_2 l0_2.length c0_2] 28 (0, 0)) (by (with_reducible repeat (first | refine blk_drewN ?_ _ | refine blk_drew ?_ | refine blk_alloc ?_ _)); exact BK101.out) hb); have n1_ := Aside0.mk (blk_below (g := gb102) (o := .cells #[.int .i64 0, .int .i64 0, .slice none 0 0] 28 (0, 0)) (by (with_reducible repeat (first | refine blk_drewN ?_ _ | refine blk_drew ?_ | refine blk_alloc ?_ _)); exact BK102.out) hb); have n2_ := Aside0.mk (below_step (by repeat (first | (with_reducible first | exact HB.out | apply below_alloc | apply pw_below_drewN | apply below_drew1 | refine below_set ?_ GE101.out | refine below_set ?_ GE102.out) | exact HB.out)) hb); clear BK101; clear BK102; clear HB; have BK101 := n0_; have BK102 := n1_; have HB := n2_; clear n0_ n1_ n2_; (try clear hb); (try clear hb2); (try clear hk); (try clear hi); have hcz37_0 : w36.cell? ⟨gb102, 0, none⟩ = some (.int .i64 0) := (blk_cell BK102.out 0).trans rfl; have hcz37_1 : w36.cell? ⟨gb102, 1, none⟩ = some (.int .i64 0) := (blk_cell BK102.out 1).trans rfl; have hcz37_2 : w36.cell? ⟨gb102, 2, none⟩ = some (.slice none 0 0) := (blk_cell BK102.out 2).trans rfl; have hfz37_0 := blk_frozen BK102.out 0; have hfz37_1 := blk_frozen BK102.out 1; have hfz37_2 := blk_frozen BK102.out 2))
    refine bodyPost_ret (results_ct rfl _ _ gb102 28 #[.int .i64 0, .int .i64 0, .slice none 0 0] (0, 0) _ rfl (by (with_reducible repeat (first | refine blk_drewN ?_ _ | refine blk_drew ?_ | refine blk_alloc ?_ _)); refine blk_put (cs := #[.int .i64 0, .int .i64 0, .slice none 0 0]) ?_ 2 _ rfl; (with_reducible repeat (first | refine blk_drewN ?_ _ | refine blk_drew ?_ | refine blk_alloc ?_ _)); refine blk_put (cs := #[.int .i64 0, .int .i64 0, .slice none 0 0]) ?_ 1 _ rfl; (with_reducible repeat (first | refine blk_drewN ?_ _ | refine blk_drew ?_ | refine blk_alloc ?_ _)); refine blk_put (cs := #[.int .i64 0, .int .i64 0, .slice none 0 0]) ?_ 0 _ rfl; (with_reducible repeat (first | refine blk_drewN ?_ _ | refine blk_drew ?_ | refine blk_alloc ?_ _)); exact BK102.out) Try.underlying28 rfl (by kernel_rfl)) rfl ?_
    exact ⟨_, by first | rfl | (simp [errW_none, errW_some] <;> rfl) | (simp [*, errW_none, errW_some] <;> rfl), by first | exact Kd.S_nil _ _ _ _ _ | exact Kd.N_nil _ _ _ _ _ | exact Kd.V_nil _ _ _ _ _ | exact Kd.Q_nil _ _ _ _ _ | exact Kd.R_nil _ _ _ _ _, by repeat (first | (with_reducible first | exact HB.out | apply below_alloc | apply pw_below_drewN | apply below_drew1 | refine below_set ?_ GE101.out | refine below_set ?_ GE102.out) | exact HB.out)⟩

end Go.Proofs.Ytekoclhnfhbmeaa.P

/-! Z0FnExactReverseOf -/
/- DRAFT, not built. ReverseOf of the reference answers what that of the program answers. -/
namespace Go.Proofs.Ytekoclhnfhbmeaa.P
open Go.RowKit Go.Proofs.YtekoclhnfhbmeaaW.PrintWords
set_option linter.unusedVariables false
set_option linter.unusedSimpArgs false
theorem revOf_loop (l : List S87) (hs : smallI l) (n t : Int) (d : Nat) : ∀ (i : Nat), i ≤ l.length → l.length - i = d → Ev (fun k => spec_ReverseOf.l0 k l.length i n t ((l.take i).map revR ++ l.drop i)) (n, t, l.map revR, true) := by
  have hb := hs.1
  induction d with
  | zero =>
    intro i h1 hd
    refine ⟨1, fun k hk => ?_⟩
    dsimp only
    obtain ⟨k, rfl⟩ : ∃ m, k = m + 1 := ⟨k - 1, by omega⟩
    simp only [spec_ReverseOf.l0]
    rw [if_neg (by omega), List.take_of_length_le (by omega), List.drop_of_length_le (by omega), List.append_nil]
  | succ d ih =>
    intro i h1 hd
    have hbi := hs.2 i (by omega)
    obtain ⟨K, h⟩ := ih (i + 1) (by omega) (by omega)
    dsimp only at h
    refine ⟨K + (rd_T87 l i).f1.length + 2, fun k hk => ?_⟩
    dsimp only
    obtain ⟨k, rfl⟩ : ∃ m, k = m + 1 := ⟨k - 1, by omega⟩
    have ed := getD_drop l i z87 (by omega)
    have hlen : ((l.take i).map revR ++ l.drop i).length = l.length := by rw [List.length_append, List.length_map, List.length_take, List.length_drop]; omega
    have eget : rd_T87 ((l.take i).map revR ++ l.drop i) i = rd_T87 l i := by
      unfold rd_T87
      rw [Int.toNat_natCast, ed, List.getD_eq_getElem?_getD, List.getElem?_append_right (by rw [List.length_map, List.length_take]; omega), List.length_map, List.length_take, Nat.min_eq_left (by omega), Nat.sub_self]; rfl
    simp only [spec_ReverseOf.l0]
    rw [if_pos (by omega), if_pos (by omega), if_pos (by rw [hlen]; omega), eget, turned_eq _ (by omega) k (by omega)]
    simp only [Option.bind_some]
    rw [show wrap64 ((i : Int) + 1) = ((i + 1 : Nat) : Int) by unfold wrap64; omega, Int.toNat_natCast, ed, set_mid _ _ _ _ _ (by rw [List.length_map, List.length_take]; omega)]
    have e3 : (l.take i).map revR ++ (⟨(rd_T87 l i).f0, (rd_T87 l i).f1.reverse⟩ : S87) :: l.drop (i + 1) = (l.take (i + 1)).map revR ++ l.drop (i + 1) := by
      rw [take_getD l i z87 (by omega), List.map_append]
      simp [revR, rd_T87]
    rw [e3]
    exact h k (by omega)
theorem pure_ReverseOf (n t : Int) (l : List S87) (hs : smallI l) :
    ∃ (n' t' : Int) (r : List S87) (b : Bool), smallI r ∧ Ev (fun k => spec_ReverseOf.f k n t l) (n', t', r, b) ∧ impl_ReverseOf.f n t l = some (n', t', r, b) := by
  obtain ⟨K, hg⟩ := spec_GoodGrammar_ev n t l hs
  try dsimp only at hg
  by_cases c : goodG n t l = true
  · obtain ⟨K2, h⟩ := revOf_loop l hs n t l.length 0 (by omega) (by omega)
    try dsimp only at h
    refine ⟨n, t, l.map revR, true, ⟨by rw [List.length_map]; exact hs.1, fun i hi => ?_⟩, ⟨K + K2 + l.length + 1, fun k hk => ?_⟩, by unfold impl_ReverseOf.f; rw [if_pos c]⟩
    · rw [List.length_map] at hi
      have e : rd_T87 (l.map revR) i = revR (rd_T87 l i) := by
        unfold rd_T87
        rw [Int.toNat_natCast, List.getD_eq_getElem?_getD, List.getElem?_map, List.getElem?_eq_getElem hi, List.getD_eq_getElem?_getD, List.getElem?_eq_getElem hi]; rfl
      rw [e]
      simpa [revR] using hs.2 i hi
    · dsimp only
      unfold spec_ReverseOf.f
      rw [hg k (by omega)]; simp only [Option.bind_some]
      rw [if_pos c, ownG_eq l hs n t k (by omega)]; simp only [Option.bind_some]
      have := h k (by omega)
      simpa using this
  · refine ⟨0, 0, [], false, ⟨by simp, fun i hi => by simp at hi⟩, ⟨K, fun k hk => ?_⟩, by unfold impl_ReverseOf.f; rw [if_neg c]⟩
    dsimp only
    unfold spec_ReverseOf.f
    rw [hg k (by omega)]; simp only [Option.bind_some]
    rw [if_neg c]
end Go.Proofs.Ytekoclhnfhbmeaa.P

/-! ZFnExactReverseOf -/
/- The law of ReverseOf answers true, whatever came in. Written by wip/tools/lawgen.py of this session. -/
namespace Go.Proofs.Ytekoclhnfhbmeaa.P
open Go.RowKit Go.Proofs.YtekoclhnfhbmeaaW.PrintWords Go.Proofs.YtekoclhnfhbmeaaW.PrintLast Go.Proofs.YtekoclhnfhbmeaaW.PrintMore
set_option linter.unusedVariables false
set_option linter.unusedSimpArgs false
set_option maxHeartbeats 16000000 in
set_option maxRecDepth 100000 in
theorem holds_FnExactReverseOf (w : World) (a0_0 : Int) (a0_1 : Int) (A0_2 : Option Addr) (c0_2 : Nat) (l0_2 : List S98) (hr0_2 : Kd.C k98 w A0_2 l0_2.length l0_2) (hc0_2 : l0_2.length ≤ c0_2) :
    Calls Try.prog 13 #[.agg #[.int .i64 a0_0, .int .i64 a0_1, .slice A0_2 l0_2.length c0_2]] w fun e w' => e = .returned (.bool true) ∧ Below w.heap.size w w' := by
  have hu0 := Try.underlying24
  have hu1 := Try.underlying28
  have HB := Aside0.mk (Below.refl w.heap.size w)
  obtain ⟨hq0, hw0⟩ := reads_small hr0_2
  obtain ⟨t0, hze0, htl0, hsm0⟩ := szGrammar_fr a0_0 a0_1 l0_2 hq0 hw0 1048576 (by omega) (by omega)
  obtain ⟨kz0, hz0⟩ := hze0.rounds
  try dsimp only at hz0
  by_cases hT0 : t0 < 0
  · have dt_ : decide (t0 < 0) = true := decide_eq_true hT0
    clear hT0
    go_enter Try.func13, Try.ntmps13
    go_wp2_with fail
    refine (laws_szGrammar.calls kz0 a0_0 a0_1 A0_2 c0_2 l0_2 1048576 t0 _ (Kd.C_below hr0_2 (by repeat (first | (with_reducible first | exact HB.out | apply below_alloc | apply pw_below_drewN | apply below_drew1) | exact HB.out))) hc0_2 hz0).mono ?_
    rintro e w0_ ⟨rfl, hb⟩
    have nB := Aside0.mk (below_step (by repeat (first | (with_reducible first | exact HB.out | apply below_alloc | apply pw_below_drewN | apply below_drew1) | exact HB.out)) hb)
    have BA0_ := Aside0.mk (blk_below (o := .cells #[.int .i64 a0_0, .int .i64 a0_1, .slice A0_2 l0_2.length c0_2] 24 (0, 0)) (heap_alloc_new w _) hb)
    clear HB hb
    have HB := nB
    clear nB
    go_wp2
    go_ret
    exact ⟨rfl, by repeat (first | (with_reducible first | exact HB.out | apply below_alloc | apply pw_below_drewN | apply below_drew1) | exact HB.out)⟩
  have dt0 : decide (t0 < 0) = false := decide_eq_false hT0
  have hs0 := hsm0 (by omega)
  obtain ⟨kt0, ht0⟩ := (toGrammar_ev a0_0 a0_1 l0_2 hs0).rounds
  obtain ⟨r0_0, r0_1, r0_2, r1, hr0, es, hki⟩ := pure_ReverseOf a0_0 a0_1 (convs l0_2) (smallI_convs hs0)
  obtain ⟨ks, hks⟩ := es.rounds
  obtain ⟨ke0, hke0⟩ := (eqGrammar_ev r0_0 r0_1 r0_2 hr0).rounds
  obtain ⟨kx0, hkx0⟩ := (eqGrammar_ev a0_0 a0_1 (convs l0_2) (smallI_convs hs0)).rounds
  have bx0 := szR_bound (smallI_convs hs0)
  have br0 := szR_bound hr0
  try dsimp only at ht0 hks hke0 hkx0
  clear es hr0
  clear hT0 hq0 hw0 hze0 hsm0 htl0
  have KEEP0 := Aside0.mk hs0
  clear hs0
  go_enter Try.func13, Try.ntmps13
  go_wp2_with fail
  refine (laws_szGrammar.calls kz0 a0_0 a0_1 A0_2 c0_2 l0_2 1048576 t0 _ (Kd.C_below hr0_2 (by repeat (first | (with_reducible first | exact HB.out | apply below_alloc | apply pw_below_drewN | apply below_drew1) | exact HB.out))) hc0_2 hz0).mono ?_
  rintro e w1 ⟨rfl, hb⟩
  have HSZ := Aside0.mk (show w.heap.size + 1 ≤ w1.heap.size by have h_ := hb.size; (try simp at h_); omega)
  have nB := Aside0.mk (below_step (by repeat (first | (with_reducible first | exact HB.out | apply below_alloc | apply pw_below_drewN | apply below_drew1) | exact HB.out)) hb)
  have nBA0 := Aside0.mk (blk_below (o := .cells #[.int .i64 a0_0, .int .i64 a0_1, .slice A0_2 l0_2.length c0_2] 24 (0, 0)) (heap_alloc_new w _) hb)
  clear HB 
  have HB := nB
  have BA0 := nBA0
  clear nB nBA0
  have Z1 := HSZ
  clear HSZ
  have cBA0_0 : w1.cell? ⟨w.heap.size, 0, none⟩ = some (.int .i64 a0_0) := (blk_cell BA0.out 0).trans rfl
  have cBA0_1 : w1.cell? ⟨w.heap.size, 1, none⟩ = some (.int .i64 a0_1) := (blk_cell BA0.out 1).trans rfl
  have cBA0_2 : w1.cell? ⟨w.heap.size, 2, none⟩ = some (.slice A0_2 l0_2.length c0_2) := (blk_cell BA0.out 2).trans rfl
  go_wp2_with fail
  clear cBA0_0 cBA0_1 cBA0_2
  refine (laws_toGrammar.calls kt0 a0_0 a0_1 A0_2 c0_2 l0_2 a0_0 a0_1 (convs l0_2) _ (Kd.C_below hr0_2 (by repeat (first | (with_reducible first | exact HB.out | apply below_alloc | apply pw_below_drewN | apply below_drew1) | exact HB.out))) hc0_2 ht0).mono ?_
  rintro e w2 ⟨v0, rfl, ho0, hb⟩
  obtain ⟨A102_0, c102_0, ev_⟩ := Kd.S_slice ho0
  subst ev_
  have NO2_0 := Aside0.mk (Kd.S_mono (ok' := fun q_ => w1.heap.size + 0 ≤ q_ ∧ q_ < w2.heap.size) (Kd.S_lower (Kd.S_bound ho0) (below_size (by repeat (first | (with_reducible first | exact HB.out | apply below_alloc | apply pw_below_drewN | apply below_drew1) | exact HB.out)))) (fun q_ h_ => ⟨by have h2_ := h_.2.1; (try simp at h2_); omega, h_.2.2.1⟩))
  clear ho0
  have HSZ := Aside0.mk (show w1.heap.size + 0 ≤ w2.heap.size by have h_ := hb.size; (try simp at h_); omega)
  have nB := Aside0.mk (below_step (by repeat (first | (with_reducible first | exact HB.out | apply below_alloc | apply pw_below_drewN | apply below_drew1) | exact HB.out)) hb)
  have nBA0 := Aside0.mk (blk_below (g := w.heap.size) (o := .cells #[.int .i64 a0_0, .int .i64 a0_1, .slice A0_2 l0_2.length c0_2] 24 (0, 0)) (by (with_reducible repeat (first | refine blk_drewN ?_ _ | refine blk_drew ?_ | refine blk_alloc ?_ _)); exact BA0.out) hb)
  clear HB BA0
  have HB := nB
  have BA0 := nBA0
  clear nB nBA0
  have Z2 := HSZ
  clear HSZ
  have cBA0_0 : w2.cell? ⟨w.heap.size, 0, none⟩ = some (.int .i64 a0_0) := (blk_cell BA0.out 0).trans rfl
  have cBA0_1 : w2.cell? ⟨w.heap.size, 1, none⟩ = some (.int .i64 a0_1) := (blk_cell BA0.out 1).trans rfl
  have cBA0_2 : w2.cell? ⟨w.heap.size, 2, none⟩ = some (.slice A0_2 l0_2.length c0_2) := (blk_cell BA0.out 2).trans rfl
  have O2_0 := NO2_0
  clear NO2_0
  go_wp2_with fail
  clear cBA0_0 cBA0_1 cBA0_2
  refine (spec_ReverseOf.calls ks a0_0 a0_1 _ _ (convs l0_2) r0_0 r0_1 r0_2 r1 _ (Kd.S_reads' (by (with_reducible repeat (first | apply Kd.S_alloc | apply Kd.S_drewN | apply Kd.S_drew)); exact O2_0.out)).2.2 (Kd.S_reads' O2_0.out).2.1 hks).mono ?_
  rintro e w3 ⟨v0, rfl, ho0, hb⟩
  obtain ⟨A103_0, c103_0, ev_⟩ := Kd.N_slice ho0
  subst ev_
  have NO3_0 := Aside0.mk (Kd.N_mono (ok' := fun q_ => w2.heap.size + 0 ≤ q_ ∧ q_ < w3.heap.size) (Kd.N_lower (Kd.N_bound ho0) (below_size (by repeat (first | (with_reducible first | exact HB.out | apply below_alloc | apply pw_below_drewN | apply below_drew1) | exact HB.out)))) (fun q_ h_ => ⟨by have h2_ := h_.1; (try simp at h2_); omega, h_.2⟩))
  clear ho0
  have HSZ := Aside0.mk (show w2.heap.size + 0 ≤ w3.heap.size by have h_ := hb.size; (try simp at h_); omega)
  have nB := Aside0.mk (below_step (by repeat (first | (with_reducible first | exact HB.out | apply below_alloc | apply pw_below_drewN | apply below_drew1) | exact HB.out)) hb)
  have nO2_0 := Aside0.mk (Kd.S_below (by (with_reducible repeat (first | apply Kd.S_alloc | apply Kd.S_drewN | apply Kd.S_drew)); exact O2_0.out) hb)
  have nBA0 := Aside0.mk (blk_below (g := w.heap.size) (o := .cells #[.int .i64 a0_0, .int .i64 a0_1, .slice A0_2 l0_2.length c0_2] 24 (0, 0)) (by (with_reducible repeat (first | refine blk_drewN ?_ _ | refine blk_drew ?_ | refine blk_alloc ?_ _)); exact BA0.out) hb)
  clear HB O2_0 BA0
  have HB := nB
  have O2_0 := nO2_0
  have BA0 := nBA0
  clear nB nO2_0 nBA0
  have Z3 := HSZ
  clear HSZ
  have cBA0_0 : w3.cell? ⟨w.heap.size, 0, none⟩ = some (.int .i64 a0_0) := (blk_cell BA0.out 0).trans rfl
  have cBA0_1 : w3.cell? ⟨w.heap.size, 1, none⟩ = some (.int .i64 a0_1) := (blk_cell BA0.out 1).trans rfl
  have cBA0_2 : w3.cell? ⟨w.heap.size, 2, none⟩ = some (.slice A0_2 l0_2.length c0_2) := (blk_cell BA0.out 2).trans rfl
  have O3_0 := NO3_0
  clear NO3_0
  have pBA0_0 : (w3.alloc (.cells #[.int .i64 r0_0, .int .i64 r0_1, .slice A103_0 r0_2.length c103_0] 28 (0, 0))).cell? ⟨w.heap.size, 0, none⟩ = some (.int .i64 a0_0) := (blk_cell (blk_alloc BA0.out (.cells #[.int .i64 r0_0, .int .i64 r0_1, .slice A103_0 r0_2.length c103_0] 28 (0, 0))) 0).trans rfl
  have pBA0_1 : (w3.alloc (.cells #[.int .i64 r0_0, .int .i64 r0_1, .slice A103_0 r0_2.length c103_0] 28 (0, 0))).cell? ⟨w.heap.size, 1, none⟩ = some (.int .i64 a0_1) := (blk_cell (blk_alloc BA0.out (.cells #[.int .i64 r0_0, .int .i64 r0_1, .slice A103_0 r0_2.length c103_0] 28 (0, 0))) 1).trans rfl
  have pBA0_2 : (w3.alloc (.cells #[.int .i64 r0_0, .int .i64 r0_1, .slice A103_0 r0_2.length c103_0] 28 (0, 0))).cell? ⟨w.heap.size, 2, none⟩ = some (.slice A0_2 l0_2.length c0_2) := (blk_cell (blk_alloc BA0.out (.cells #[.int .i64 r0_0, .int .i64 r0_1, .slice A103_0 r0_2.length c103_0] 28 (0, 0))) 2).trans rfl
  go_wp2_with fail
  clear pBA0_0 pBA0_1 pBA0_2
  clear cBA0_0 cBA0_1 cBA0_2
  refine (laws_toGrammar.calls kt0 a0_0 a0_1 A0_2 c0_2 l0_2 a0_0 a0_1 (convs l0_2) (w3.alloc (.cells #[.int .i64 r0_0, .int .i64 r0_1, .slice A103_0 r0_2.length c103_0] 28 (0, 0))) (Kd.C_below hr0_2 (by repeat (first | (with_reducible first | exact HB.out | apply below_alloc | apply pw_below_drewN | apply below_drew1) | exact HB.out))) hc0_2 ht0).mono ?_
  rintro e w4 ⟨v0, rfl, ho0, hb⟩
  obtain ⟨A104_0, c104_0, ev_⟩ := Kd.S_slice ho0
  subst ev_
  have NO4_0 := Aside0.mk (Kd.S_mono (ok' := fun q_ => w3.heap.size + 1 ≤ q_ ∧ q_ < w4.heap.size) (Kd.S_lower (Kd.S_bound ho0) (below_size (by repeat (first | (with_reducible first | exact HB.out | apply below_alloc | apply pw_below_drewN | apply below_drew1) | exact HB.out)))) (fun q_ h_ => ⟨by have h2_ := h_.2.1; (try simp at h2_); omega, h_.2.2.1⟩))
  clear ho0
  have HSZ := Aside0.mk (show w3.heap.size + 1 ≤ w4.heap.size by have h_ := hb.size; (try simp at h_); omega)
  have nB := Aside0.mk (below_step (by repeat (first | (with_reducible first | exact HB.out | apply below_alloc | apply pw_below_drewN | apply below_drew1) | exact HB.out)) hb)
  have nO3_0 := Aside0.mk (Kd.N_below (by (with_reducible repeat (first | apply Kd.N_alloc | apply Kd.N_drewN | apply Kd.N_drew)); exact O3_0.out) hb)
  have nBA0 := Aside0.mk (blk_below (g := w.heap.size) (o := .cells #[.int .i64 a0_0, .int .i64 a0_1, .slice A0_2 l0_2.length c0_2] 24 (0, 0)) (by (with_reducible repeat (first | refine blk_drewN ?_ _ | refine blk_drew ?_ | refine blk_alloc ?_ _)); exact BA0.out) hb)
  have nBW0 := Aside0.mk (blk_below (o := .cells #[.int .i64 r0_0, .int .i64 r0_1, .slice A103_0 r0_2.length c103_0] 28 (0, 0)) (heap_alloc_new w3 _) hb)
  clear HB O3_0 BA0
  have HB := nB
  have O3_0 := nO3_0
  have BA0 := nBA0
  have BW0 := nBW0
  clear nB nO3_0 nBA0 nBW0
  have Z4 := HSZ
  clear HSZ
  have cBA0_0 : w4.cell? ⟨w.heap.size, 0, none⟩ = some (.int .i64 a0_0) := (blk_cell BA0.out 0).trans rfl
  have cBA0_1 : w4.cell? ⟨w.heap.size, 1, none⟩ = some (.int .i64 a0_1) := (blk_cell BA0.out 1).trans rfl
  have cBA0_2 : w4.cell? ⟨w.heap.size, 2, none⟩ = some (.slice A0_2 l0_2.length c0_2) := (blk_cell BA0.out 2).trans rfl
  have cBW0_0 : w4.cell? ⟨w3.heap.size, 0, none⟩ = some (.int .i64 r0_0) := (blk_cell BW0.out 0).trans rfl
  have cBW0_1 : w4.cell? ⟨w3.heap.size, 1, none⟩ = some (.int .i64 r0_1) := (blk_cell BW0.out 1).trans rfl
  have cBW0_2 : w4.cell? ⟨w3.heap.size, 2, none⟩ = some (.slice A103_0 r0_2.length c103_0) := (blk_cell BW0.out 2).trans rfl
  have O4_0 := NO4_0
  clear NO4_0
  go_wp2_with fail
  clear cBA0_0 cBA0_1 cBA0_2 cBW0_0 cBW0_1 cBW0_2
  refine (impl_ReverseOf.calls a0_0 a0_1 _ _ (convs l0_2) r0_0 r0_1 r0_2 r1 _ (Kd.S_reads' (by (with_reducible repeat (first | apply Kd.S_alloc | apply Kd.S_drewN | apply Kd.S_drew)); exact O4_0.out)).2.2 (Kd.S_reads' O4_0.out).2.1 hki).mono ?_
  rintro e w5 ⟨v0, rfl, ho0, hb⟩
  obtain ⟨A105_0, c105_0, ev_⟩ := Kd.S_slice ho0
  subst ev_
  have NO5_0 := Aside0.mk (Kd.S_mono (ok' := fun q_ => w4.heap.size + 1 ≤ q_ ∧ q_ < w5.heap.size) (Kd.S_lower (Kd.S_bound ho0) (below_size (by repeat (first | (with_reducible first | exact HB.out | apply below_alloc | apply pw_below_drewN | apply below_drew1) | exact HB.out)))) (fun q_ h_ => ⟨by have h2_ := h_.2.1; (try simp at h2_); omega, h_.2.2.1⟩))
  clear ho0
  have HSZ := Aside0.mk (show w4.heap.size + 1 ≤ w5.heap.size by have h_ := hb.size; (try simp at h_); omega)
  have nB := Aside0.mk (below_step (by repeat (first | (with_reducible first | exact HB.out | apply below_alloc | apply pw_below_drewN | apply below_drew1) | exact HB.out)) hb)
  have nO3_0 := Aside0.mk (Kd.N_below (by (with_reducible repeat (first | apply Kd.N_alloc | apply Kd.N_drewN | apply Kd.N_drew)); exact O3_0.out) hb)
  have nO4_0 := Aside0.mk (Kd.S_below (by (with_reducible repeat (first | apply Kd.S_alloc | apply Kd.S_drewN | apply Kd.S_drew)); exact O4_0.out) hb)
  have nBA0 := Aside0.mk (blk_below (g := w.heap.size) (o := .cells #[.int .i64 a0_0, .int .i64 a0_1, .slice A0_2 l0_2.length c0_2] 24 (0, 0)) (by (with_reducible repeat (first | refine blk_drewN ?_ _ | refine blk_drew ?_ | refine blk_alloc ?_ _)); exact BA0.out) hb)
  have nBW0 := Aside0.mk (blk_below (g := w3.heap.size) (o := .cells #[.int .i64 r0_0, .int .i64 r0_1, .slice A103_0 r0_2.length c103_0] 28 (0, 0)) (by (with_reducible repeat (first | refine blk_drewN ?_ _ | refine blk_drew ?_ | refine blk_alloc ?_ _)); exact BW0.out) hb)
  have nBX0 := Aside0.mk (blk_below (o := .cells #[.int .i64 a0_0, .int .i64 a0_1, .slice A104_0 (convs l0_2).length c104_0] 28 (0, 0)) (heap_alloc_new w4 _) hb)
  clear HB O3_0 O4_0 BA0 BW0
  have HB := nB
  have O3_0 := nO3_0
  have O4_0 := nO4_0
  have BA0 := nBA0
  have BW0 := nBW0
  have BX0 := nBX0
  clear nB nO3_0 nO4_0 nBA0 nBW0 nBX0
  have Z5 := HSZ
  clear HSZ
  have cBA0_0 : w5.cell? ⟨w.heap.size, 0, none⟩ = some (.int .i64 a0_0) := (blk_cell BA0.out 0).trans rfl
  have cBA0_1 : w5.cell? ⟨w.heap.size, 1, none⟩ = some (.int .i64 a0_1) := (blk_cell BA0.out 1).trans rfl
  have cBA0_2 : w5.cell? ⟨w.heap.size, 2, none⟩ = some (.slice A0_2 l0_2.length c0_2) := (blk_cell BA0.out 2).trans rfl
  have cBW0_0 : w5.cell? ⟨w3.heap.size, 0, none⟩ = some (.int .i64 r0_0) := (blk_cell BW0.out 0).trans rfl
  have cBW0_1 : w5.cell? ⟨w3.heap.size, 1, none⟩ = some (.int .i64 r0_1) := (blk_cell BW0.out 1).trans rfl
  have cBW0_2 : w5.cell? ⟨w3.heap.size, 2, none⟩ = some (.slice A103_0 r0_2.length c103_0) := (blk_cell BW0.out 2).trans rfl
  have cBX0_0 : w5.cell? ⟨w4.heap.size, 0, none⟩ = some (.int .i64 a0_0) := (blk_cell BX0.out 0).trans rfl
  have cBX0_1 : w5.cell? ⟨w4.heap.size, 1, none⟩ = some (.int .i64 a0_1) := (blk_cell BX0.out 1).trans rfl
  have cBX0_2 : w5.cell? ⟨w4.heap.size, 2, none⟩ = some (.slice A104_0 (convs l0_2).length c104_0) := (blk_cell BX0.out 2).trans rfl
  have O5_0 := NO5_0
  clear NO5_0
  have pBW0_0 : (w5.alloc (.cells #[.int .i64 r0_0, .int .i64 r0_1, .slice A105_0 r0_2.length c105_0] 28 (0, 0))).cell? ⟨w3.heap.size, 0, none⟩ = some (.int .i64 r0_0) := (blk_cell (blk_alloc BW0.out (.cells #[.int .i64 r0_0, .int .i64 r0_1, .slice A105_0 r0_2.length c105_0] 28 (0, 0))) 0).trans rfl
  have pBW0_1 : (w5.alloc (.cells #[.int .i64 r0_0, .int .i64 r0_1, .slice A105_0 r0_2.length c105_0] 28 (0, 0))).cell? ⟨w3.heap.size, 1, none⟩ = some (.int .i64 r0_1) := (blk_cell (blk_alloc BW0.out (.cells #[.int .i64 r0_0, .int .i64 r0_1, .slice A105_0 r0_2.length c105_0] 28 (0, 0))) 1).trans rfl
  have pBW0_2 : (w5.alloc (.cells #[.int .i64 r0_0, .int .i64 r0_1, .slice A105_0 r0_2.length c105_0] 28 (0, 0))).cell? ⟨w3.heap.size, 2, none⟩ = some (.slice A103_0 r0_2.length c103_0) := (blk_cell (blk_alloc BW0.out (.cells #[.int .i64 r0_0, .int .i64 r0_1, .slice A105_0 r0_2.length c105_0] 28 (0, 0))) 2).trans rfl
  go_wp2_with fail
  clear pBW0_0 pBW0_1 pBW0_2
  clear cBA0_0 cBA0_1 cBA0_2 cBW0_0 cBW0_1 cBW0_2 cBX0_0 cBX0_1 cBX0_2
  refine (laws_eqGrammar.calls ke0 r0_0 r0_1 _ _ r0_2 r0_0 r0_1 _ _ r0_2 true _ (Kd.S_reads' (by (with_reducible repeat (first | apply Kd.S_alloc | apply Kd.S_drewN | apply Kd.S_drew)); exact O5_0.out)).2.2 (Kd.S_reads' O5_0.out).2.1 (Kd.N_reads' (by (with_reducible repeat (first | apply Kd.N_alloc | apply Kd.N_drewN | apply Kd.N_drew)); exact O3_0.out)).2.2 (Kd.N_reads' O3_0.out).2.1 hke0).mono ?_
  rintro e w6 ⟨rfl, hb⟩
  have HSZ := Aside0.mk (show w5.heap.size + 1 ≤ w6.heap.size by have h_ := hb.size; (try simp at h_); omega)
  have nB := Aside0.mk (below_step (by repeat (first | (with_reducible first | exact HB.out | apply below_alloc | apply pw_below_drewN | apply below_drew1) | exact HB.out)) hb)
  have nO3_0 := Aside0.mk (Kd.N_below (by (with_reducible repeat (first | apply Kd.N_alloc | apply Kd.N_drewN | apply Kd.N_drew)); exact O3_0.out) hb)
  have nO4_0 := Aside0.mk (Kd.S_below (by (with_reducible repeat (first | apply Kd.S_alloc | apply Kd.S_drewN | apply Kd.S_drew)); exact O4_0.out) hb)
  have nO5_0 := Aside0.mk (Kd.S_below (by (with_reducible repeat (first | apply Kd.S_alloc | apply Kd.S_drewN | apply Kd.S_drew)); exact O5_0.out) hb)
  have nBA0 := Aside0.mk (blk_below (g := w.heap.size) (o := .cells #[.int .i64 a0_0, .int .i64 a0_1, .slice A0_2 l0_2.length c0_2] 24 (0, 0)) (by (with_reducible repeat (first | refine blk_drewN ?_ _ | refine blk_drew ?_ | refine blk_alloc ?_ _)); exact BA0.out) hb)
  have nBW0 := Aside0.mk (blk_below (g := w3.heap.size) (o := .cells #[.int .i64 r0_0, .int .i64 r0_1, .slice A103_0 r0_2.length c103_0] 28 (0, 0)) (by (with_reducible repeat (first | refine blk_drewN ?_ _ | refine blk_drew ?_ | refine blk_alloc ?_ _)); exact BW0.out) hb)
  have nBX0 := Aside0.mk (blk_below (g := w4.heap.size) (o := .cells #[.int .i64 a0_0, .int .i64 a0_1, .slice A104_0 (convs l0_2).length c104_0] 28 (0, 0)) (by (with_reducible repeat (first | refine blk_drewN ?_ _ | refine blk_drew ?_ | refine blk_alloc ?_ _)); exact BX0.out) hb)
  have nBG0 := Aside0.mk (blk_below (o := .cells #[.int .i64 r0_0, .int .i64 r0_1, .slice A105_0 r0_2.length c105_0] 28 (0, 0)) (heap_alloc_new w5 _) hb)
  clear HB O3_0 O4_0 O5_0 BA0 BW0 BX0
  have HB := nB
  have O3_0 := nO3_0
  have O4_0 := nO4_0
  have O5_0 := nO5_0
  have BA0 := nBA0
  have BW0 := nBW0
  have BX0 := nBX0
  have BG0 := nBG0
  clear nB nO3_0 nO4_0 nO5_0 nBA0 nBW0 nBX0 nBG0
  have Z6 := HSZ
  clear HSZ
  have cBA0_0 : w6.cell? ⟨w.heap.size, 0, none⟩ = some (.int .i64 a0_0) := (blk_cell BA0.out 0).trans rfl
  have cBA0_1 : w6.cell? ⟨w.heap.size, 1, none⟩ = some (.int .i64 a0_1) := (blk_cell BA0.out 1).trans rfl
  have cBA0_2 : w6.cell? ⟨w.heap.size, 2, none⟩ = some (.slice A0_2 l0_2.length c0_2) := (blk_cell BA0.out 2).trans rfl
  have cBW0_0 : w6.cell? ⟨w3.heap.size, 0, none⟩ = some (.int .i64 r0_0) := (blk_cell BW0.out 0).trans rfl
  have cBW0_1 : w6.cell? ⟨w3.heap.size, 1, none⟩ = some (.int .i64 r0_1) := (blk_cell BW0.out 1).trans rfl
  have cBW0_2 : w6.cell? ⟨w3.heap.size, 2, none⟩ = some (.slice A103_0 r0_2.length c103_0) := (blk_cell BW0.out 2).trans rfl
  have cBX0_0 : w6.cell? ⟨w4.heap.size, 0, none⟩ = some (.int .i64 a0_0) := (blk_cell BX0.out 0).trans rfl
  have cBX0_1 : w6.cell? ⟨w4.heap.size, 1, none⟩ = some (.int .i64 a0_1) := (blk_cell BX0.out 1).trans rfl
  have cBX0_2 : w6.cell? ⟨w4.heap.size, 2, none⟩ = some (.slice A104_0 (convs l0_2).length c104_0) := (blk_cell BX0.out 2).trans rfl
  have cBG0_0 : w6.cell? ⟨w5.heap.size, 0, none⟩ = some (.int .i64 r0_0) := (blk_cell BG0.out 0).trans rfl
  have cBG0_1 : w6.cell? ⟨w5.heap.size, 1, none⟩ = some (.int .i64 r0_1) := (blk_cell BG0.out 1).trans rfl
  have cBG0_2 : w6.cell? ⟨w5.heap.size, 2, none⟩ = some (.slice A105_0 r0_2.length c105_0) := (blk_cell BG0.out 2).trans rfl
  go_wp2_with fail
  have nO3_0 := Aside0.mk (Kd.N_drew O3_0.out)
  have nO4_0 := Aside0.mk (Kd.S_drew O4_0.out)
  have nO5_0 := Aside0.mk (Kd.S_drew O5_0.out)
  have nBA0 := Aside0.mk (blk_drew BA0.out)
  have nBW0 := Aside0.mk (blk_drew BW0.out)
  have nBX0 := Aside0.mk (blk_drew BX0.out)
  have nBG0 := Aside0.mk (blk_drew BG0.out)
  have nB := Aside0.mk (below_drew1 HB.out)
  have HSZ := Aside0.mk (show w6.heap.size + 0 ≤ w6.drew.heap.size from Nat.le_refl _)
  clear cBA0_0 cBA0_1 cBA0_2 cBW0_0 cBW0_1 cBW0_2 cBX0_0 cBX0_1 cBX0_2 cBG0_0 cBG0_1 cBG0_2
  clear HB O3_0 O4_0 O5_0 BA0 BW0 BX0 BG0
  have HB := nB
  have O3_0 := nO3_0
  have O4_0 := nO4_0
  have O5_0 := nO5_0
  have BA0 := nBA0
  have BW0 := nBW0
  have BX0 := nBX0
  have BG0 := nBG0
  clear nB nO3_0 nO4_0 nO5_0 nBA0 nBW0 nBX0 nBG0
  refine start_ (n := 5) (S := fun w' => w'.cell? ⟨w4.heap.size, 0, none⟩ = some (.int .i64 a0_0) ∧ w'.cell? ⟨w4.heap.size, 1, none⟩ = some (.int .i64 a0_1) ∧ w'.cell? ⟨w4.heap.size, 2, none⟩ = some (.slice A104_0 (convs l0_2).length c104_0) ∧ w'.cell? ⟨w.heap.size, 0, none⟩ = some (.int .i64 a0_0) ∧ w'.cell? ⟨w.heap.size, 1, none⟩ = some (.int .i64 a0_1) ∧ w'.cell? ⟨w.heap.size, 2, none⟩ = some (.slice A0_2 l0_2.length c0_2)) (ds := []) #[false, false, false, false, false] (by kernel_rfl) rfl rfl ⟨(blk_cell BX0.out 0).trans rfl, (blk_cell BX0.out 1).trans rfl, (blk_cell BX0.out 2).trans rfl, (blk_cell BA0.out 0).trans rfl, (blk_cell BA0.out 1).trans rfl, (blk_cell BA0.out 2).trans rfl⟩ (fun hHeld => ?_)
  generalize w6.drew = w7 at O3_0 O4_0 O5_0 BA0 BW0 BX0 BG0 HB HSZ hHeld ⊢
  have Z7 := HSZ
  clear HSZ
  refine take_ (i := 0) (v := ?_) (a' := ?_) #[true, false, false, false, false] rfl rfl (by kernel_rfl) (fun _ _ _ h => h) (Or.inl ⟨by rfl, ?_⟩) hHeld ?_ ?_
  rotate_left
  · rintro w' ⟨s0, s1, s2, s3, s4, s5⟩
    go_simp
    with_reducible rfl
  rotate_left
  · simp only [Act.put, List.setIfInBounds_toArray, List.set_cons_zero, List.set_cons_succ, i64_w, i32_w]
    rfl
  refine take_ (i := 1) (v := ?_) (a' := ?_) #[true, true, false, false, false] rfl rfl (by kernel_rfl) (fun _ _ _ h => h) (Or.inl ⟨by rfl, ?_⟩) hHeld ?_ ?_
  rotate_left
  · rintro w' ⟨s0, s1, s2, s3, s4, s5⟩
    go_simp
    with_reducible rfl
  rotate_left
  · simp only [Act.put, List.setIfInBounds_toArray, List.set_cons_zero, List.set_cons_succ, i64_w, i32_w]
    rfl
  refine one_ (i := 2) #[true, true, true, false, false] rfl rfl (by kernel_rfl) (by decide) (fun K hK => ?_)
  refine goes_ Try.func17 (by kernel_rfl) rfl #[.agg #[.int .i64 a0_0, .int .i64 a0_1, .slice A0_2 l0_2.length c0_2]] (by rfl) rfl rfl (by first | rfl | ((try simp only [List.map_toArray, List.map_cons, List.map_nil]); first | done | rfl)) ?_
  with_reducible refine (laws_toGrammar.calls kt0 a0_0 a0_1 A0_2 c0_2 l0_2 a0_0 a0_1 (convs l0_2) _ (Kd.C_below hr0_2 (by repeat (first | (with_reducible first | exact HB.out | apply below_alloc | apply pw_below_drewN | apply below_drew1) | exact HB.out))) hc0_2 ht0).mono ?_
  rintro e w8 ⟨v0, rfl, ho0, hb⟩
  refine ⟨_, rfl, ?_⟩
  obtain ⟨A108_0, c108_0, ev_⟩ := Kd.S_slice ho0
  subst ev_
  have NO8_0 := Aside0.mk (Kd.S_mono (ok' := fun q_ => w7.heap.size + 0 ≤ q_ ∧ q_ < w8.heap.size) (Kd.S_lower (Kd.S_bound ho0) (below_size (by repeat (first | (with_reducible first | exact HB.out | apply below_alloc | apply pw_below_drewN | apply below_drew1) | exact HB.out)))) (fun q_ h_ => ⟨by have h2_ := h_.2.1; (try simp at h2_); omega, h_.2.2.1⟩))
  clear ho0
  have HSZ := Aside0.mk (show w7.heap.size + 0 ≤ w8.heap.size by have h_ := hb.size; (try simp at h_); omega)
  have nB := Aside0.mk (below_step (by repeat (first | (with_reducible first | exact HB.out | apply below_alloc | apply pw_below_drewN | apply below_drew1) | exact HB.out)) hb)
  have nO3_0 := Aside0.mk (Kd.N_below (by (with_reducible repeat (first | apply Kd.N_alloc | apply Kd.N_drewN | apply Kd.N_drew)); exact O3_0.out) hb)
  have nO4_0 := Aside0.mk (Kd.S_below (by (with_reducible repeat (first | apply Kd.S_alloc | apply Kd.S_drewN | apply Kd.S_drew)); exact O4_0.out) hb)
  have nO5_0 := Aside0.mk (Kd.S_below (by (with_reducible repeat (first | apply Kd.S_alloc | apply Kd.S_drewN | apply Kd.S_drew)); exact O5_0.out) hb)
  have nBA0 := Aside0.mk (blk_below (g := w.heap.size) (o := .cells #[.int .i64 a0_0, .int .i64 a0_1, .slice A0_2 l0_2.length c0_2] 24 (0, 0)) (by (with_reducible repeat (first | refine blk_drewN ?_ _ | refine blk_drew ?_ | refine blk_alloc ?_ _)); exact BA0.out) hb)
  have nBW0 := Aside0.mk (blk_below (g := w3.heap.size) (o := .cells #[.int .i64 r0_0, .int .i64 r0_1, .slice A103_0 r0_2.length c103_0] 28 (0, 0)) (by (with_reducible repeat (first | refine blk_drewN ?_ _ | refine blk_drew ?_ | refine blk_alloc ?_ _)); exact BW0.out) hb)
  have nBX0 := Aside0.mk (blk_below (g := w4.heap.size) (o := .cells #[.int .i64 a0_0, .int .i64 a0_1, .slice A104_0 (convs l0_2).length c104_0] 28 (0, 0)) (by (with_reducible repeat (first | refine blk_drewN ?_ _ | refine blk_drew ?_ | refine blk_alloc ?_ _)); exact BX0.out) hb)
  have nBG0 := Aside0.mk (blk_below (g := w5.heap.size) (o := .cells #[.int .i64 r0_0, .int .i64 r0_1, .slice A105_0 r0_2.length c105_0] 28 (0, 0)) (by (with_reducible repeat (first | refine blk_drewN ?_ _ | refine blk_drew ?_ | refine blk_alloc ?_ _)); exact BG0.out) hb)
  clear HB O3_0 O4_0 O5_0 BA0 BW0 BX0 BG0
  have HB := nB
  have O3_0 := nO3_0
  have O4_0 := nO4_0
  have O5_0 := nO5_0
  have BA0 := nBA0
  have BW0 := nBW0
  have BX0 := nBX0
  have BG0 := nBG0
  clear nB nO3_0 nO4_0 nO5_0 nBA0 nBW0 nBX0 nBG0
  have Z8 := HSZ
  clear HSZ
  have cBA0_0 : w8.cell? ⟨w.heap.size, 0, none⟩ = some (.int .i64 a0_0) := (blk_cell BA0.out 0).trans rfl
  have cBA0_1 : w8.cell? ⟨w.heap.size, 1, none⟩ = some (.int .i64 a0_1) := (blk_cell BA0.out 1).trans rfl
  have cBA0_2 : w8.cell? ⟨w.heap.size, 2, none⟩ = some (.slice A0_2 l0_2.length c0_2) := (blk_cell BA0.out 2).trans rfl
  have cBW0_0 : w8.cell? ⟨w3.heap.size, 0, none⟩ = some (.int .i64 r0_0) := (blk_cell BW0.out 0).trans rfl
  have cBW0_1 : w8.cell? ⟨w3.heap.size, 1, none⟩ = some (.int .i64 r0_1) := (blk_cell BW0.out 1).trans rfl
  have cBW0_2 : w8.cell? ⟨w3.heap.size, 2, none⟩ = some (.slice A103_0 r0_2.length c103_0) := (blk_cell BW0.out 2).trans rfl
  have cBX0_0 : w8.cell? ⟨w4.heap.size, 0, none⟩ = some (.int .i64 a0_0) := (blk_cell BX0.out 0).trans rfl
  have cBX0_1 : w8.cell? ⟨w4.heap.size, 1, none⟩ = some (.int .i64 a0_1) := (blk_cell BX0.out 1).trans rfl
  have cBX0_2 : w8.cell? ⟨w4.heap.size, 2, none⟩ = some (.slice A104_0 (convs l0_2).length c104_0) := (blk_cell BX0.out 2).trans rfl
  have cBG0_0 : w8.cell? ⟨w5.heap.size, 0, none⟩ = some (.int .i64 r0_0) := (blk_cell BG0.out 0).trans rfl
  have cBG0_1 : w8.cell? ⟨w5.heap.size, 1, none⟩ = some (.int .i64 r0_1) := (blk_cell BG0.out 1).trans rfl
  have cBG0_2 : w8.cell? ⟨w5.heap.size, 2, none⟩ = some (.slice A105_0 r0_2.length c105_0) := (blk_cell BG0.out 2).trans rfl
  have O8_0 := NO8_0
  clear NO8_0
  clear cBA0_0 cBA0_1 cBA0_2 cBW0_0 cBW0_1 cBW0_2 cBX0_0 cBX0_1 cBX0_2 cBG0_0 cBG0_1 cBG0_2
  refine hK.out _ _ ⟨(blk_cell BX0.out 0).trans rfl, (blk_cell BX0.out 1).trans rfl, (blk_cell BX0.out 2).trans rfl, (blk_cell BA0.out 0).trans rfl, (blk_cell BA0.out 1).trans rfl, (blk_cell BA0.out 2).trans rfl⟩ (fun hHeld => ?_)
  clear hK K
  refine norm_ (a' := ?_) ?_ ?_
  rotate_left
  · show Act.put _ (some _) _ = _
    simp only [Act.put, List.setIfInBounds_toArray, List.set_cons_zero, List.set_cons_succ, i64_w, i32_w]
    rfl
  refine one_ (i := 3) #[true, true, true, true, false] rfl rfl (by kernel_rfl) (by decide) (fun K hK => ?_)
  refine goes_ Try.func19 (by kernel_rfl) rfl #[.agg #[.int .i64 a0_0, .int .i64 a0_1, .slice A104_0 (convs l0_2).length c104_0], .agg #[.int .i64 a0_0, .int .i64 a0_1, .slice A108_0 (convs l0_2).length c108_0]] (by rfl) rfl rfl (by first | rfl | ((try simp only [List.map_toArray, List.map_cons, List.map_nil]); first | done | rfl)) ?_
  with_reducible refine (laws_eqGrammar.calls kx0 a0_0 a0_1 _ _ (convs l0_2) a0_0 a0_1 _ _ (convs l0_2) true _ (Kd.S_reads' (by (with_reducible repeat (first | apply Kd.S_alloc | apply Kd.S_drewN | apply Kd.S_drew)); exact O4_0.out)).2.2 (Kd.S_reads' O4_0.out).2.1 (Kd.S_reads' (by (with_reducible repeat (first | apply Kd.S_alloc | apply Kd.S_drewN | apply Kd.S_drew)); exact O8_0.out)).2.2 (Kd.S_reads' O8_0.out).2.1 hkx0).mono ?_
  rintro e w9 ⟨rfl, hb⟩
  refine ⟨_, rfl, ?_⟩
  clear O8_0
  have HSZ := Aside0.mk (show w8.heap.size + 0 ≤ w9.heap.size by have h_ := hb.size; (try simp at h_); omega)
  have nB := Aside0.mk (below_step (by repeat (first | (with_reducible first | exact HB.out | apply below_alloc | apply pw_below_drewN | apply below_drew1) | exact HB.out)) hb)
  have nO3_0 := Aside0.mk (Kd.N_below (by (with_reducible repeat (first | apply Kd.N_alloc | apply Kd.N_drewN | apply Kd.N_drew)); exact O3_0.out) hb)
  have nO4_0 := Aside0.mk (Kd.S_below (by (with_reducible repeat (first | apply Kd.S_alloc | apply Kd.S_drewN | apply Kd.S_drew)); exact O4_0.out) hb)
  have nO5_0 := Aside0.mk (Kd.S_below (by (with_reducible repeat (first | apply Kd.S_alloc | apply Kd.S_drewN | apply Kd.S_drew)); exact O5_0.out) hb)
  have nBA0 := Aside0.mk (blk_below (g := w.heap.size) (o := .cells #[.int .i64 a0_0, .int .i64 a0_1, .slice A0_2 l0_2.length c0_2] 24 (0, 0)) (by (with_reducible repeat (first | refine blk_drewN ?_ _ | refine blk_drew ?_ | refine blk_alloc ?_ _)); exact BA0.out) hb)
  have nBW0 := Aside0.mk (blk_below (g := w3.heap.size) (o := .cells #[.int .i64 r0_0, .int .i64 r0_1, .slice A103_0 r0_2.length c103_0] 28 (0, 0)) (by (with_reducible repeat (first | refine blk_drewN ?_ _ | refine blk_drew ?_ | refine blk_alloc ?_ _)); exact BW0.out) hb)
  have nBX0 := Aside0.mk (blk_below (g := w4.heap.size) (o := .cells #[.int .i64 a0_0, .int .i64 a0_1, .slice A104_0 (convs l0_2).length c104_0] 28 (0, 0)) (by (with_reducible repeat (first | refine blk_drewN ?_ _ | refine blk_drew ?_ | refine blk_alloc ?_ _)); exact BX0.out) hb)
  have nBG0 := Aside0.mk (blk_below (g := w5.heap.size) (o := .cells #[.int .i64 r0_0, .int .i64 r0_1, .slice A105_0 r0_2.length c105_0] 28 (0, 0)) (by (with_reducible repeat (first | refine blk_drewN ?_ _ | refine blk_drew ?_ | refine blk_alloc ?_ _)); exact BG0.out) hb)
  clear HB O3_0 O4_0 O5_0 BA0 BW0 BX0 BG0
  have HB := nB
  have O3_0 := nO3_0
  have O4_0 := nO4_0
  have O5_0 := nO5_0
  have BA0 := nBA0
  have BW0 := nBW0
  have BX0 := nBX0
  have BG0 := nBG0
  clear nB nO3_0 nO4_0 nO5_0 nBA0 nBW0 nBX0 nBG0
  have Z9 := HSZ
  clear HSZ
  have cBA0_0 : w9.cell? ⟨w.heap.size, 0, none⟩ = some (.int .i64 a0_0) := (blk_cell BA0.out 0).trans rfl
  have cBA0_1 : w9.cell? ⟨w.heap.size, 1, none⟩ = some (.int .i64 a0_1) := (blk_cell BA0.out 1).trans rfl
  have cBA0_2 : w9.cell? ⟨w.heap.size, 2, none⟩ = some (.slice A0_2 l0_2.length c0_2) := (blk_cell BA0.out 2).trans rfl
  have cBW0_0 : w9.cell? ⟨w3.heap.size, 0, none⟩ = some (.int .i64 r0_0) := (blk_cell BW0.out 0).trans rfl
  have cBW0_1 : w9.cell? ⟨w3.heap.size, 1, none⟩ = some (.int .i64 r0_1) := (blk_cell BW0.out 1).trans rfl
  have cBW0_2 : w9.cell? ⟨w3.heap.size, 2, none⟩ = some (.slice A103_0 r0_2.length c103_0) := (blk_cell BW0.out 2).trans rfl
  have cBX0_0 : w9.cell? ⟨w4.heap.size, 0, none⟩ = some (.int .i64 a0_0) := (blk_cell BX0.out 0).trans rfl
  have cBX0_1 : w9.cell? ⟨w4.heap.size, 1, none⟩ = some (.int .i64 a0_1) := (blk_cell BX0.out 1).trans rfl
  have cBX0_2 : w9.cell? ⟨w4.heap.size, 2, none⟩ = some (.slice A104_0 (convs l0_2).length c104_0) := (blk_cell BX0.out 2).trans rfl
  have cBG0_0 : w9.cell? ⟨w5.heap.size, 0, none⟩ = some (.int .i64 r0_0) := (blk_cell BG0.out 0).trans rfl
  have cBG0_1 : w9.cell? ⟨w5.heap.size, 1, none⟩ = some (.int .i64 r0_1) := (blk_cell BG0.out 1).trans rfl
  have cBG0_2 : w9.cell? ⟨w5.heap.size, 2, none⟩ = some (.slice A105_0 r0_2.length c105_0) := (blk_cell BG0.out 2).trans rfl
  clear cBA0_0 cBA0_1 cBA0_2 cBW0_0 cBW0_1 cBW0_2 cBX0_0 cBX0_1 cBX0_2 cBG0_0 cBG0_1 cBG0_2
  refine hK.out _ _ ⟨(blk_cell BX0.out 0).trans rfl, (blk_cell BX0.out 1).trans rfl, (blk_cell BX0.out 2).trans rfl, (blk_cell BA0.out 0).trans rfl, (blk_cell BA0.out 1).trans rfl, (blk_cell BA0.out 2).trans rfl⟩ (fun hHeld => ?_)
  clear hK K
  refine norm_ (a' := ?_) ?_ ?_
  rotate_left
  · show Act.put _ (some _) _ = _
    simp only [Act.put, List.setIfInBounds_toArray, List.set_cons_zero, List.set_cons_succ, i64_w, i32_w]
    rfl
  refine pure_ (i := 4) (v := ?_) (a' := ?_) #[true, true, true, true, true] rfl rfl (by kernel_rfl) (fun _ _ _ h => h) (Or.inl ⟨by rfl, ?_⟩) ?_ ?_
  rotate_left
  · intro w'
    go_simp
    with_reducible rfl
  rotate_left
  · simp only [Act.put, List.setIfInBounds_toArray, List.set_cons_zero, List.set_cons_succ, i64_w, i32_w]
    rfl
  refine done_ (by kernel_rfl) ?_
  clear hHeld
  have cBA0_0 : w9.cell? ⟨w.heap.size, 0, none⟩ = some (.int .i64 a0_0) := (blk_cell BA0.out 0).trans rfl
  have cBA0_1 : w9.cell? ⟨w.heap.size, 1, none⟩ = some (.int .i64 a0_1) := (blk_cell BA0.out 1).trans rfl
  have cBA0_2 : w9.cell? ⟨w.heap.size, 2, none⟩ = some (.slice A0_2 l0_2.length c0_2) := (blk_cell BA0.out 2).trans rfl
  have cBW0_0 : w9.cell? ⟨w3.heap.size, 0, none⟩ = some (.int .i64 r0_0) := (blk_cell BW0.out 0).trans rfl
  have cBW0_1 : w9.cell? ⟨w3.heap.size, 1, none⟩ = some (.int .i64 r0_1) := (blk_cell BW0.out 1).trans rfl
  have cBW0_2 : w9.cell? ⟨w3.heap.size, 2, none⟩ = some (.slice A103_0 r0_2.length c103_0) := (blk_cell BW0.out 2).trans rfl
  have cBX0_0 : w9.cell? ⟨w4.heap.size, 0, none⟩ = some (.int .i64 a0_0) := (blk_cell BX0.out 0).trans rfl
  have cBX0_1 : w9.cell? ⟨w4.heap.size, 1, none⟩ = some (.int .i64 a0_1) := (blk_cell BX0.out 1).trans rfl
  have cBX0_2 : w9.cell? ⟨w4.heap.size, 2, none⟩ = some (.slice A104_0 (convs l0_2).length c104_0) := (blk_cell BX0.out 2).trans rfl
  have cBG0_0 : w9.cell? ⟨w5.heap.size, 0, none⟩ = some (.int .i64 r0_0) := (blk_cell BG0.out 0).trans rfl
  have cBG0_1 : w9.cell? ⟨w5.heap.size, 1, none⟩ = some (.int .i64 r0_1) := (blk_cell BG0.out 1).trans rfl
  have cBG0_2 : w9.cell? ⟨w5.heap.size, 2, none⟩ = some (.slice A105_0 r0_2.length c105_0) := (blk_cell BG0.out 2).trans rfl
  obtain ⟨kk0, hkk0⟩ : ∃ z_ : Int, z_ = 1 + (szR (convs l0_2) : Int) := ⟨_, rfl⟩
  go_wp2_with fail
  clear cBA0_0 cBA0_1 cBA0_2 cBW0_0 cBW0_1 cBW0_2 cBX0_0 cBX0_1 cBX0_2 cBG0_0 cBG0_1 cBG0_2
  have CM := markGrammar_calls (fun q_ => w3.heap.size + 1 ≤ q_ ∧ q_ < w4.heap.size) a0_0 a0_1 _ (convs l0_2) (1) w _ (by repeat (first | (with_reducible first | exact HB.out | apply below_alloc | apply pw_below_drewN | apply below_drew1) | exact HB.out)) (by (with_reducible repeat (first | apply Kd.S_alloc | apply Kd.S_drewN | apply Kd.S_drew)); exact O4_0.out) (by omega) (by have := bx0; omega)
  rw [← hkk0] at CM
  refine CM.mono ?_
  rintro e w10 ⟨rfl, ho, hB_, hK_⟩
  have NB := Aside0.mk hB_
  have NK := Aside0.mk hK_
  have NO := Aside0.mk ho
  clear ho hB_ hK_ CM
  have HSZ := Aside0.mk (show w9.heap.size + 0 ≤ w10.heap.size by have h_ := NK.out.1; (try simp at h_); omega)
  have nB := NB
  have nO3_0 := Aside0.mk (Kd.N_kept (by (with_reducible repeat (first | apply Kd.N_alloc | apply Kd.N_drewN | apply Kd.N_drew)); exact O3_0.out) NK.out (fun q_ h1_ h2_ => by have := Z1.out; have := Z2.out; have := Z3.out; have := Z4.out; have := Z5.out; have := Z6.out; have := Z7.out; have := Z8.out; have := Z9.out; omega))
  have nO5_0 := Aside0.mk (Kd.S_kept (by (with_reducible repeat (first | apply Kd.S_alloc | apply Kd.S_drewN | apply Kd.S_drew)); exact O5_0.out) NK.out (fun q_ h1_ h2_ => by have := Z1.out; have := Z2.out; have := Z3.out; have := Z4.out; have := Z5.out; have := Z6.out; have := Z7.out; have := Z8.out; have := Z9.out; omega))
  have nBA0 := Aside0.mk (blk_kept (g := w.heap.size) (o := .cells #[.int .i64 a0_0, .int .i64 a0_1, .slice A0_2 l0_2.length c0_2] 24 (0, 0)) (by (with_reducible repeat (first | refine blk_drewN ?_ _ | refine blk_drew ?_ | refine blk_alloc ?_ _)); exact BA0.out) NK.out (fun h2_ => by have := Z1.out; have := Z2.out; have := Z3.out; have := Z4.out; have := Z5.out; have := Z6.out; have := Z7.out; have := Z8.out; have := Z9.out; omega))
  have nBW0 := Aside0.mk (blk_kept (g := w3.heap.size) (o := .cells #[.int .i64 r0_0, .int .i64 r0_1, .slice A103_0 r0_2.length c103_0] 28 (0, 0)) (by (with_reducible repeat (first | refine blk_drewN ?_ _ | refine blk_drew ?_ | refine blk_alloc ?_ _)); exact BW0.out) NK.out (fun h2_ => by have := Z1.out; have := Z2.out; have := Z3.out; have := Z4.out; have := Z5.out; have := Z6.out; have := Z7.out; have := Z8.out; have := Z9.out; omega))
  have nBX0 := Aside0.mk (blk_kept (g := w4.heap.size) (o := .cells #[.int .i64 a0_0, .int .i64 a0_1, .slice A104_0 (convs l0_2).length c104_0] 28 (0, 0)) (by (with_reducible repeat (first | refine blk_drewN ?_ _ | refine blk_drew ?_ | refine blk_alloc ?_ _)); exact BX0.out) NK.out (fun h2_ => by have := Z1.out; have := Z2.out; have := Z3.out; have := Z4.out; have := Z5.out; have := Z6.out; have := Z7.out; have := Z8.out; have := Z9.out; omega))
  have nBG0 := Aside0.mk (blk_kept (g := w5.heap.size) (o := .cells #[.int .i64 r0_0, .int .i64 r0_1, .slice A105_0 r0_2.length c105_0] 28 (0, 0)) (by (with_reducible repeat (first | refine blk_drewN ?_ _ | refine blk_drew ?_ | refine blk_alloc ?_ _)); exact BG0.out) NK.out (fun h2_ => by have := Z1.out; have := Z2.out; have := Z3.out; have := Z4.out; have := Z5.out; have := Z6.out; have := Z7.out; have := Z8.out; have := Z9.out; omega))
  clear HB O3_0 O5_0 BA0 BW0 BX0 BG0
  have HB := nB
  have O3_0 := nO3_0
  have O5_0 := nO5_0
  have BA0 := nBA0
  have BW0 := nBW0
  have BX0 := nBX0
  have BG0 := nBG0
  clear nB nO3_0 nO5_0 nBA0 nBW0 nBX0 nBG0
  have Z10 := HSZ
  clear HSZ
  have cBA0_0 : w10.cell? ⟨w.heap.size, 0, none⟩ = some (.int .i64 a0_0) := (blk_cell BA0.out 0).trans rfl
  have cBA0_1 : w10.cell? ⟨w.heap.size, 1, none⟩ = some (.int .i64 a0_1) := (blk_cell BA0.out 1).trans rfl
  have cBA0_2 : w10.cell? ⟨w.heap.size, 2, none⟩ = some (.slice A0_2 l0_2.length c0_2) := (blk_cell BA0.out 2).trans rfl
  have cBW0_0 : w10.cell? ⟨w3.heap.size, 0, none⟩ = some (.int .i64 r0_0) := (blk_cell BW0.out 0).trans rfl
  have cBW0_1 : w10.cell? ⟨w3.heap.size, 1, none⟩ = some (.int .i64 r0_1) := (blk_cell BW0.out 1).trans rfl
  have cBW0_2 : w10.cell? ⟨w3.heap.size, 2, none⟩ = some (.slice A103_0 r0_2.length c103_0) := (blk_cell BW0.out 2).trans rfl
  have cBX0_0 : w10.cell? ⟨w4.heap.size, 0, none⟩ = some (.int .i64 a0_0) := (blk_cell BX0.out 0).trans rfl
  have cBX0_1 : w10.cell? ⟨w4.heap.size, 1, none⟩ = some (.int .i64 a0_1) := (blk_cell BX0.out 1).trans rfl
  have cBX0_2 : w10.cell? ⟨w4.heap.size, 2, none⟩ = some (.slice A104_0 (convs l0_2).length c104_0) := (blk_cell BX0.out 2).trans rfl
  have cBG0_0 : w10.cell? ⟨w5.heap.size, 0, none⟩ = some (.int .i64 r0_0) := (blk_cell BG0.out 0).trans rfl
  have cBG0_1 : w10.cell? ⟨w5.heap.size, 1, none⟩ = some (.int .i64 r0_1) := (blk_cell BG0.out 1).trans rfl
  have cBG0_2 : w10.cell? ⟨w5.heap.size, 2, none⟩ = some (.slice A105_0 r0_2.length c105_0) := (blk_cell BG0.out 2).trans rfl
  clear O4_0
  have O4_0 := NO
  clear NO NK NB
  have dkk0 : decide (kk0 < 0) = false := decide_eq_false (by omega)
  have gkk0 : 0 ≤ kk0 := by omega
  have qkk0 : kk0 ≤ 1152921504606847 := by have := bx0; omega
  have Skk0 := Aside0.mk hkk0
  clear hkk0
  clear O4_0
  go_wp2_with fail
  clear cBA0_0 cBA0_1 cBA0_2 cBW0_0 cBW0_1 cBW0_2 cBG0_0 cBG0_1 cBG0_2
  refine (laws_eqGrammar.calls ke0 r0_0 r0_1 _ _ r0_2 r0_0 r0_1 _ _ r0_2 true _ (Kd.S_reads' (by (with_reducible repeat (first | apply Kd.S_alloc | apply Kd.S_drewN | apply Kd.S_drew)); exact O5_0.out)).2.2 (Kd.S_reads' O5_0.out).2.1 (Kd.N_reads' (by (with_reducible repeat (first | apply Kd.N_alloc | apply Kd.N_drewN | apply Kd.N_drew)); exact O3_0.out)).2.2 (Kd.N_reads' O3_0.out).2.1 hke0).mono ?_
  rintro e w11 ⟨rfl, hb⟩
  have HSZ := Aside0.mk (show w10.heap.size + 0 ≤ w11.heap.size by have h_ := hb.size; (try simp at h_); omega)
  have nB := Aside0.mk (below_step (by repeat (first | (with_reducible first | exact HB.out | apply below_alloc | apply pw_below_drewN | apply below_drew1) | exact HB.out)) hb)
  have nO3_0 := Aside0.mk (Kd.N_below (by (with_reducible repeat (first | apply Kd.N_alloc | apply Kd.N_drewN | apply Kd.N_drew)); exact O3_0.out) hb)
  have nO5_0 := Aside0.mk (Kd.S_below (by (with_reducible repeat (first | apply Kd.S_alloc | apply Kd.S_drewN | apply Kd.S_drew)); exact O5_0.out) hb)
  have nBA0 := Aside0.mk (blk_below (g := w.heap.size) (o := .cells #[.int .i64 a0_0, .int .i64 a0_1, .slice A0_2 l0_2.length c0_2] 24 (0, 0)) (by (with_reducible repeat (first | refine blk_drewN ?_ _ | refine blk_drew ?_ | refine blk_alloc ?_ _)); exact BA0.out) hb)
  have nBW0 := Aside0.mk (blk_below (g := w3.heap.size) (o := .cells #[.int .i64 r0_0, .int .i64 r0_1, .slice A103_0 r0_2.length c103_0] 28 (0, 0)) (by (with_reducible repeat (first | refine blk_drewN ?_ _ | refine blk_drew ?_ | refine blk_alloc ?_ _)); exact BW0.out) hb)
  have nBG0 := Aside0.mk (blk_below (g := w5.heap.size) (o := .cells #[.int .i64 r0_0, .int .i64 r0_1, .slice A105_0 r0_2.length c105_0] 28 (0, 0)) (by (with_reducible repeat (first | refine blk_drewN ?_ _ | refine blk_drew ?_ | refine blk_alloc ?_ _)); exact BG0.out) hb)
  clear HB O3_0 O5_0 BA0 BW0 BG0
  have HB := nB
  have O3_0 := nO3_0
  have O5_0 := nO5_0
  have BA0 := nBA0
  have BW0 := nBW0
  have BG0 := nBG0
  clear nB nO3_0 nO5_0 nBA0 nBW0 nBG0
  have Z11 := HSZ
  clear HSZ
  have cBA0_0 : w11.cell? ⟨w.heap.size, 0, none⟩ = some (.int .i64 a0_0) := (blk_cell BA0.out 0).trans rfl
  have cBA0_1 : w11.cell? ⟨w.heap.size, 1, none⟩ = some (.int .i64 a0_1) := (blk_cell BA0.out 1).trans rfl
  have cBA0_2 : w11.cell? ⟨w.heap.size, 2, none⟩ = some (.slice A0_2 l0_2.length c0_2) := (blk_cell BA0.out 2).trans rfl
  have cBW0_0 : w11.cell? ⟨w3.heap.size, 0, none⟩ = some (.int .i64 r0_0) := (blk_cell BW0.out 0).trans rfl
  have cBW0_1 : w11.cell? ⟨w3.heap.size, 1, none⟩ = some (.int .i64 r0_1) := (blk_cell BW0.out 1).trans rfl
  have cBW0_2 : w11.cell? ⟨w3.heap.size, 2, none⟩ = some (.slice A103_0 r0_2.length c103_0) := (blk_cell BW0.out 2).trans rfl
  have cBG0_0 : w11.cell? ⟨w5.heap.size, 0, none⟩ = some (.int .i64 r0_0) := (blk_cell BG0.out 0).trans rfl
  have cBG0_1 : w11.cell? ⟨w5.heap.size, 1, none⟩ = some (.int .i64 r0_1) := (blk_cell BG0.out 1).trans rfl
  have cBG0_2 : w11.cell? ⟨w5.heap.size, 2, none⟩ = some (.slice A105_0 r0_2.length c105_0) := (blk_cell BG0.out 2).trans rfl
  obtain ⟨mm0, hmm0⟩ : ∃ z_ : Int, z_ = 1 + (szR r0_2 : Int) := ⟨_, rfl⟩
  go_wp2_with fail
  clear cBA0_0 cBA0_1 cBA0_2 cBW0_0 cBW0_1 cBW0_2 cBG0_0 cBG0_1 cBG0_2
  have CM := markGrammar_calls (fun q_ => w4.heap.size + 1 ≤ q_ ∧ q_ < w5.heap.size) r0_0 r0_1 _ r0_2 (1) w _ (by repeat (first | (with_reducible first | exact HB.out | apply below_alloc | apply pw_below_drewN | apply below_drew1) | exact HB.out)) (by (with_reducible repeat (first | apply Kd.S_alloc | apply Kd.S_drewN | apply Kd.S_drew)); exact O5_0.out) (by omega) (by have := br0; omega)
  rw [← hmm0] at CM
  refine CM.mono ?_
  rintro e w12 ⟨rfl, ho, hB_, hK_⟩
  have NB := Aside0.mk hB_
  have NK := Aside0.mk hK_
  have NO := Aside0.mk ho
  clear ho hB_ hK_ CM
  have HSZ := Aside0.mk (show w11.heap.size + 0 ≤ w12.heap.size by have h_ := NK.out.1; (try simp at h_); omega)
  have nB := NB
  have nO3_0 := Aside0.mk (Kd.N_kept (by (with_reducible repeat (first | apply Kd.N_alloc | apply Kd.N_drewN | apply Kd.N_drew)); exact O3_0.out) NK.out (fun q_ h1_ h2_ => by have := Z1.out; have := Z2.out; have := Z3.out; have := Z4.out; have := Z5.out; have := Z6.out; have := Z7.out; have := Z8.out; have := Z9.out; have := Z10.out; have := Z11.out; omega))
  have nBA0 := Aside0.mk (blk_kept (g := w.heap.size) (o := .cells #[.int .i64 a0_0, .int .i64 a0_1, .slice A0_2 l0_2.length c0_2] 24 (0, 0)) (by (with_reducible repeat (first | refine blk_drewN ?_ _ | refine blk_drew ?_ | refine blk_alloc ?_ _)); exact BA0.out) NK.out (fun h2_ => by have := Z1.out; have := Z2.out; have := Z3.out; have := Z4.out; have := Z5.out; have := Z6.out; have := Z7.out; have := Z8.out; have := Z9.out; have := Z10.out; have := Z11.out; omega))
  have nBW0 := Aside0.mk (blk_kept (g := w3.heap.size) (o := .cells #[.int .i64 r0_0, .int .i64 r0_1, .slice A103_0 r0_2.length c103_0] 28 (0, 0)) (by (with_reducible repeat (first | refine blk_drewN ?_ _ | refine blk_drew ?_ | refine blk_alloc ?_ _)); exact BW0.out) NK.out (fun h2_ => by have := Z1.out; have := Z2.out; have := Z3.out; have := Z4.out; have := Z5.out; have := Z6.out; have := Z7.out; have := Z8.out; have := Z9.out; have := Z10.out; have := Z11.out; omega))
  have nBG0 := Aside0.mk (blk_kept (g := w5.heap.size) (o := .cells #[.int .i64 r0_0, .int .i64 r0_1, .slice A105_0 r0_2.length c105_0] 28 (0, 0)) (by (with_reducible repeat (first | refine blk_drewN ?_ _ | refine blk_drew ?_ | refine blk_alloc ?_ _)); exact BG0.out) NK.out (fun h2_ => by have := Z1.out; have := Z2.out; have := Z3.out; have := Z4.out; have := Z5.out; have := Z6.out; have := Z7.out; have := Z8.out; have := Z9.out; have := Z10.out; have := Z11.out; omega))
  clear HB O3_0 BA0 BW0 BG0
  have HB := nB
  have O3_0 := nO3_0
  have BA0 := nBA0
  have BW0 := nBW0
  have BG0 := nBG0
  clear nB nO3_0 nBA0 nBW0 nBG0
  have Z12 := HSZ
  clear HSZ
  have cBA0_0 : w12.cell? ⟨w.heap.size, 0, none⟩ = some (.int .i64 a0_0) := (blk_cell BA0.out 0).trans rfl
  have cBA0_1 : w12.cell? ⟨w.heap.size, 1, none⟩ = some (.int .i64 a0_1) := (blk_cell BA0.out 1).trans rfl
  have cBA0_2 : w12.cell? ⟨w.heap.size, 2, none⟩ = some (.slice A0_2 l0_2.length c0_2) := (blk_cell BA0.out 2).trans rfl
  have cBW0_0 : w12.cell? ⟨w3.heap.size, 0, none⟩ = some (.int .i64 r0_0) := (blk_cell BW0.out 0).trans rfl
  have cBW0_1 : w12.cell? ⟨w3.heap.size, 1, none⟩ = some (.int .i64 r0_1) := (blk_cell BW0.out 1).trans rfl
  have cBW0_2 : w12.cell? ⟨w3.heap.size, 2, none⟩ = some (.slice A103_0 r0_2.length c103_0) := (blk_cell BW0.out 2).trans rfl
  have cBG0_0 : w12.cell? ⟨w5.heap.size, 0, none⟩ = some (.int .i64 r0_0) := (blk_cell BG0.out 0).trans rfl
  have cBG0_1 : w12.cell? ⟨w5.heap.size, 1, none⟩ = some (.int .i64 r0_1) := (blk_cell BG0.out 1).trans rfl
  have cBG0_2 : w12.cell? ⟨w5.heap.size, 2, none⟩ = some (.slice A105_0 r0_2.length c105_0) := (blk_cell BG0.out 2).trans rfl
  clear O5_0
  have O5_0 := NO
  clear NO NK NB
  have dmm0 : decide (mm0 < 0) = false := decide_eq_false (by omega)
  have gmm0 : 0 ≤ mm0 := by omega
  have qmm0 : mm0 ≤ 1152921504606847 := by have := br0; omega
  have Smm0 := Aside0.mk hmm0
  clear hmm0
  go_wp2_with fail
  clear cBA0_0 cBA0_1 cBA0_2 cBW0_0 cBW0_1 cBW0_2 cBG0_0 cBG0_1 cBG0_2
  have CH := fun A_ c_ w_ hr_ hc_ => heldGrammar_calls r0_0 r0_1 A_ c_ r0_2 (1) w_ hr_ hc_ (by omega) (by have := br0; omega)
  rw [← Smm0.out] at CH
  refine (CH _ _ _ (Kd.S_reads' (by (with_reducible repeat (first | apply Kd.S_alloc | apply Kd.S_drewN | apply Kd.S_drew)); exact O5_0.out)).2.2 (Kd.S_reads' O5_0.out).2.1).mono ?_
  rintro e w13 ⟨rfl, hb⟩
  clear CH
  have HSZ := Aside0.mk (show w12.heap.size + 0 ≤ w13.heap.size by have h_ := hb.size; (try simp at h_); omega)
  have nB := Aside0.mk (below_step (by repeat (first | (with_reducible first | exact HB.out | apply below_alloc | apply pw_below_drewN | apply below_drew1) | exact HB.out)) hb)
  have nO3_0 := Aside0.mk (Kd.N_below (by (with_reducible repeat (first | apply Kd.N_alloc | apply Kd.N_drewN | apply Kd.N_drew)); exact O3_0.out) hb)
  have nO5_0 := Aside0.mk (Kd.S_below (by (with_reducible repeat (first | apply Kd.S_alloc | apply Kd.S_drewN | apply Kd.S_drew)); exact O5_0.out) hb)
  have nBA0 := Aside0.mk (blk_below (g := w.heap.size) (o := .cells #[.int .i64 a0_0, .int .i64 a0_1, .slice A0_2 l0_2.length c0_2] 24 (0, 0)) (by (with_reducible repeat (first | refine blk_drewN ?_ _ | refine blk_drew ?_ | refine blk_alloc ?_ _)); exact BA0.out) hb)
  have nBW0 := Aside0.mk (blk_below (g := w3.heap.size) (o := .cells #[.int .i64 r0_0, .int .i64 r0_1, .slice A103_0 r0_2.length c103_0] 28 (0, 0)) (by (with_reducible repeat (first | refine blk_drewN ?_ _ | refine blk_drew ?_ | refine blk_alloc ?_ _)); exact BW0.out) hb)
  have nBG0 := Aside0.mk (blk_below (g := w5.heap.size) (o := .cells #[.int .i64 r0_0, .int .i64 r0_1, .slice A105_0 r0_2.length c105_0] 28 (0, 0)) (by (with_reducible repeat (first | refine blk_drewN ?_ _ | refine blk_drew ?_ | refine blk_alloc ?_ _)); exact BG0.out) hb)
  clear HB O3_0 O5_0 BA0 BW0 BG0
  have HB := nB
  have O3_0 := nO3_0
  have O5_0 := nO5_0
  have BA0 := nBA0
  have BW0 := nBW0
  have BG0 := nBG0
  clear nB nO3_0 nO5_0 nBA0 nBW0 nBG0
  have Z13 := HSZ
  clear HSZ
  have cBA0_0 : w13.cell? ⟨w.heap.size, 0, none⟩ = some (.int .i64 a0_0) := (blk_cell BA0.out 0).trans rfl
  have cBA0_1 : w13.cell? ⟨w.heap.size, 1, none⟩ = some (.int .i64 a0_1) := (blk_cell BA0.out 1).trans rfl
  have cBA0_2 : w13.cell? ⟨w.heap.size, 2, none⟩ = some (.slice A0_2 l0_2.length c0_2) := (blk_cell BA0.out 2).trans rfl
  have cBW0_0 : w13.cell? ⟨w3.heap.size, 0, none⟩ = some (.int .i64 r0_0) := (blk_cell BW0.out 0).trans rfl
  have cBW0_1 : w13.cell? ⟨w3.heap.size, 1, none⟩ = some (.int .i64 r0_1) := (blk_cell BW0.out 1).trans rfl
  have cBW0_2 : w13.cell? ⟨w3.heap.size, 2, none⟩ = some (.slice A103_0 r0_2.length c103_0) := (blk_cell BW0.out 2).trans rfl
  have cBG0_0 : w13.cell? ⟨w5.heap.size, 0, none⟩ = some (.int .i64 r0_0) := (blk_cell BG0.out 0).trans rfl
  have cBG0_1 : w13.cell? ⟨w5.heap.size, 1, none⟩ = some (.int .i64 r0_1) := (blk_cell BG0.out 1).trans rfl
  have cBG0_2 : w13.cell? ⟨w5.heap.size, 2, none⟩ = some (.slice A105_0 r0_2.length c105_0) := (blk_cell BG0.out 2).trans rfl
  go_wp2_with fail
  clear cBA0_0 cBA0_1 cBA0_2 cBW0_0 cBW0_1 cBW0_2 cBG0_0 cBG0_1 cBG0_2
  refine (laws_toGrammar.calls kt0 a0_0 a0_1 A0_2 c0_2 l0_2 a0_0 a0_1 (convs l0_2) _ (Kd.C_below hr0_2 (by repeat (first | (with_reducible first | exact HB.out | apply below_alloc | apply pw_below_drewN | apply below_drew1) | exact HB.out))) hc0_2 ht0).mono ?_
  rintro e w14 ⟨v0, rfl, ho0, hb⟩
  obtain ⟨A114_0, c114_0, ev_⟩ := Kd.S_slice ho0
  subst ev_
  have NO14_0 := Aside0.mk (Kd.S_mono (ok' := fun q_ => w13.heap.size + 0 ≤ q_ ∧ q_ < w14.heap.size) (Kd.S_lower (Kd.S_bound ho0) (below_size (by repeat (first | (with_reducible first | exact HB.out | apply below_alloc | apply pw_below_drewN | apply below_drew1) | exact HB.out)))) (fun q_ h_ => ⟨by have h2_ := h_.2.1; (try simp at h2_); omega, h_.2.2.1⟩))
  clear ho0
  have HSZ := Aside0.mk (show w13.heap.size + 0 ≤ w14.heap.size by have h_ := hb.size; (try simp at h_); omega)
  have nB := Aside0.mk (below_step (by repeat (first | (with_reducible first | exact HB.out | apply below_alloc | apply pw_below_drewN | apply below_drew1) | exact HB.out)) hb)
  have nO3_0 := Aside0.mk (Kd.N_below (by (with_reducible repeat (first | apply Kd.N_alloc | apply Kd.N_drewN | apply Kd.N_drew)); exact O3_0.out) hb)
  have nO5_0 := Aside0.mk (Kd.S_below (by (with_reducible repeat (first | apply Kd.S_alloc | apply Kd.S_drewN | apply Kd.S_drew)); exact O5_0.out) hb)
  have nBA0 := Aside0.mk (blk_below (g := w.heap.size) (o := .cells #[.int .i64 a0_0, .int .i64 a0_1, .slice A0_2 l0_2.length c0_2] 24 (0, 0)) (by (with_reducible repeat (first | refine blk_drewN ?_ _ | refine blk_drew ?_ | refine blk_alloc ?_ _)); exact BA0.out) hb)
  have nBW0 := Aside0.mk (blk_below (g := w3.heap.size) (o := .cells #[.int .i64 r0_0, .int .i64 r0_1, .slice A103_0 r0_2.length c103_0] 28 (0, 0)) (by (with_reducible repeat (first | refine blk_drewN ?_ _ | refine blk_drew ?_ | refine blk_alloc ?_ _)); exact BW0.out) hb)
  have nBG0 := Aside0.mk (blk_below (g := w5.heap.size) (o := .cells #[.int .i64 r0_0, .int .i64 r0_1, .slice A105_0 r0_2.length c105_0] 28 (0, 0)) (by (with_reducible repeat (first | refine blk_drewN ?_ _ | refine blk_drew ?_ | refine blk_alloc ?_ _)); exact BG0.out) hb)
  clear HB O3_0 O5_0 BA0 BW0 BG0
  have HB := nB
  have O3_0 := nO3_0
  have O5_0 := nO5_0
  have BA0 := nBA0
  have BW0 := nBW0
  have BG0 := nBG0
  clear nB nO3_0 nO5_0 nBA0 nBW0 nBG0
  have Z14 := HSZ
  clear HSZ
  have cBA0_0 : w14.cell? ⟨w.heap.size, 0, none⟩ = some (.int .i64 a0_0) := (blk_cell BA0.out 0).trans rfl
  have cBA0_1 : w14.cell? ⟨w.heap.size, 1, none⟩ = some (.int .i64 a0_1) := (blk_cell BA0.out 1).trans rfl
  have cBA0_2 : w14.cell? ⟨w.heap.size, 2, none⟩ = some (.slice A0_2 l0_2.length c0_2) := (blk_cell BA0.out 2).trans rfl
  have cBW0_0 : w14.cell? ⟨w3.heap.size, 0, none⟩ = some (.int .i64 r0_0) := (blk_cell BW0.out 0).trans rfl
  have cBW0_1 : w14.cell? ⟨w3.heap.size, 1, none⟩ = some (.int .i64 r0_1) := (blk_cell BW0.out 1).trans rfl
  have cBW0_2 : w14.cell? ⟨w3.heap.size, 2, none⟩ = some (.slice A103_0 r0_2.length c103_0) := (blk_cell BW0.out 2).trans rfl
  have cBG0_0 : w14.cell? ⟨w5.heap.size, 0, none⟩ = some (.int .i64 r0_0) := (blk_cell BG0.out 0).trans rfl
  have cBG0_1 : w14.cell? ⟨w5.heap.size, 1, none⟩ = some (.int .i64 r0_1) := (blk_cell BG0.out 1).trans rfl
  have cBG0_2 : w14.cell? ⟨w5.heap.size, 2, none⟩ = some (.slice A105_0 r0_2.length c105_0) := (blk_cell BG0.out 2).trans rfl
  have O14_0 := NO14_0
  clear NO14_0
  go_wp2_with fail
  clear cBA0_0 cBA0_1 cBA0_2 cBW0_0 cBW0_1 cBW0_2 cBG0_0 cBG0_1 cBG0_2
  refine (impl_ReverseOf.calls a0_0 a0_1 _ _ (convs l0_2) r0_0 r0_1 r0_2 r1 _ (Kd.S_reads' (by (with_reducible repeat (first | apply Kd.S_alloc | apply Kd.S_drewN | apply Kd.S_drew)); exact O14_0.out)).2.2 (Kd.S_reads' O14_0.out).2.1 hki).mono ?_
  rintro e w15 ⟨v0, rfl, ho0, hb⟩
  obtain ⟨A115_0, c115_0, ev_⟩ := Kd.S_slice ho0
  subst ev_
  have NO15_0 := Aside0.mk (Kd.S_mono (ok' := fun q_ => w14.heap.size + 0 ≤ q_ ∧ q_ < w15.heap.size) (Kd.S_lower (Kd.S_bound ho0) (below_size (by repeat (first | (with_reducible first | exact HB.out | apply below_alloc | apply pw_below_drewN | apply below_drew1) | exact HB.out)))) (fun q_ h_ => ⟨by have h2_ := h_.2.1; (try simp at h2_); omega, h_.2.2.1⟩))
  clear ho0
  have HSZ := Aside0.mk (show w14.heap.size + 0 ≤ w15.heap.size by have h_ := hb.size; (try simp at h_); omega)
  have nB := Aside0.mk (below_step (by repeat (first | (with_reducible first | exact HB.out | apply below_alloc | apply pw_below_drewN | apply below_drew1) | exact HB.out)) hb)
  have nO3_0 := Aside0.mk (Kd.N_below (by (with_reducible repeat (first | apply Kd.N_alloc | apply Kd.N_drewN | apply Kd.N_drew)); exact O3_0.out) hb)
  have nO5_0 := Aside0.mk (Kd.S_below (by (with_reducible repeat (first | apply Kd.S_alloc | apply Kd.S_drewN | apply Kd.S_drew)); exact O5_0.out) hb)
  have nO14_0 := Aside0.mk (Kd.S_below (by (with_reducible repeat (first | apply Kd.S_alloc | apply Kd.S_drewN | apply Kd.S_drew)); exact O14_0.out) hb)
  have nBA0 := Aside0.mk (blk_below (g := w.heap.size) (o := .cells #[.int .i64 a0_0, .int .i64 a0_1, .slice A0_2 l0_2.length c0_2] 24 (0, 0)) (by (with_reducible repeat (first | refine blk_drewN ?_ _ | refine blk_drew ?_ | refine blk_alloc ?_ _)); exact BA0.out) hb)
  have nBW0 := Aside0.mk (blk_below (g := w3.heap.size) (o := .cells #[.int .i64 r0_0, .int .i64 r0_1, .slice A103_0 r0_2.length c103_0] 28 (0, 0)) (by (with_reducible repeat (first | refine blk_drewN ?_ _ | refine blk_drew ?_ | refine blk_alloc ?_ _)); exact BW0.out) hb)
  have nBG0 := Aside0.mk (blk_below (g := w5.heap.size) (o := .cells #[.int .i64 r0_0, .int .i64 r0_1, .slice A105_0 r0_2.length c105_0] 28 (0, 0)) (by (with_reducible repeat (first | refine blk_drewN ?_ _ | refine blk_drew ?_ | refine blk_alloc ?_ _)); exact BG0.out) hb)
  clear HB O3_0 O5_0 O14_0 BA0 BW0 BG0
  have HB := nB
  have O3_0 := nO3_0
  have O5_0 := nO5_0
  have O14_0 := nO14_0
  have BA0 := nBA0
  have BW0 := nBW0
  have BG0 := nBG0
  clear nB nO3_0 nO5_0 nO14_0 nBA0 nBW0 nBG0
  have Z15 := HSZ
  clear HSZ
  have cBA0_0 : w15.cell? ⟨w.heap.size, 0, none⟩ = some (.int .i64 a0_0) := (blk_cell BA0.out 0).trans rfl
  have cBA0_1 : w15.cell? ⟨w.heap.size, 1, none⟩ = some (.int .i64 a0_1) := (blk_cell BA0.out 1).trans rfl
  have cBA0_2 : w15.cell? ⟨w.heap.size, 2, none⟩ = some (.slice A0_2 l0_2.length c0_2) := (blk_cell BA0.out 2).trans rfl
  have cBW0_0 : w15.cell? ⟨w3.heap.size, 0, none⟩ = some (.int .i64 r0_0) := (blk_cell BW0.out 0).trans rfl
  have cBW0_1 : w15.cell? ⟨w3.heap.size, 1, none⟩ = some (.int .i64 r0_1) := (blk_cell BW0.out 1).trans rfl
  have cBW0_2 : w15.cell? ⟨w3.heap.size, 2, none⟩ = some (.slice A103_0 r0_2.length c103_0) := (blk_cell BW0.out 2).trans rfl
  have cBG0_0 : w15.cell? ⟨w5.heap.size, 0, none⟩ = some (.int .i64 r0_0) := (blk_cell BG0.out 0).trans rfl
  have cBG0_1 : w15.cell? ⟨w5.heap.size, 1, none⟩ = some (.int .i64 r0_1) := (blk_cell BG0.out 1).trans rfl
  have cBG0_2 : w15.cell? ⟨w5.heap.size, 2, none⟩ = some (.slice A105_0 r0_2.length c105_0) := (blk_cell BG0.out 2).trans rfl
  have O15_0 := NO15_0
  clear NO15_0
  clear O14_0
  have pBW0_0 : (w15.alloc (.cells #[.int .i64 r0_0, .int .i64 r0_1, .slice A115_0 r0_2.length c115_0] 28 (0, 0))).cell? ⟨w3.heap.size, 0, none⟩ = some (.int .i64 r0_0) := (blk_cell (blk_alloc BW0.out (.cells #[.int .i64 r0_0, .int .i64 r0_1, .slice A115_0 r0_2.length c115_0] 28 (0, 0))) 0).trans rfl
  have pBW0_1 : (w15.alloc (.cells #[.int .i64 r0_0, .int .i64 r0_1, .slice A115_0 r0_2.length c115_0] 28 (0, 0))).cell? ⟨w3.heap.size, 1, none⟩ = some (.int .i64 r0_1) := (blk_cell (blk_alloc BW0.out (.cells #[.int .i64 r0_0, .int .i64 r0_1, .slice A115_0 r0_2.length c115_0] 28 (0, 0))) 1).trans rfl
  have pBW0_2 : (w15.alloc (.cells #[.int .i64 r0_0, .int .i64 r0_1, .slice A115_0 r0_2.length c115_0] 28 (0, 0))).cell? ⟨w3.heap.size, 2, none⟩ = some (.slice A103_0 r0_2.length c103_0) := (blk_cell (blk_alloc BW0.out (.cells #[.int .i64 r0_0, .int .i64 r0_1, .slice A115_0 r0_2.length c115_0] 28 (0, 0))) 2).trans rfl
  have pBG0_0 : (w15.alloc (.cells #[.int .i64 r0_0, .int .i64 r0_1, .slice A115_0 r0_2.length c115_0] 28 (0, 0))).cell? ⟨w5.heap.size, 0, none⟩ = some (.int .i64 r0_0) := (blk_cell (blk_alloc BG0.out (.cells #[.int .i64 r0_0, .int .i64 r0_1, .slice A115_0 r0_2.length c115_0] 28 (0, 0))) 0).trans rfl
  have pBG0_1 : (w15.alloc (.cells #[.int .i64 r0_0, .int .i64 r0_1, .slice A115_0 r0_2.length c115_0] 28 (0, 0))).cell? ⟨w5.heap.size, 1, none⟩ = some (.int .i64 r0_1) := (blk_cell (blk_alloc BG0.out (.cells #[.int .i64 r0_0, .int .i64 r0_1, .slice A115_0 r0_2.length c115_0] 28 (0, 0))) 1).trans rfl
  have pBG0_2 : (w15.alloc (.cells #[.int .i64 r0_0, .int .i64 r0_1, .slice A115_0 r0_2.length c115_0] 28 (0, 0))).cell? ⟨w5.heap.size, 2, none⟩ = some (.slice A105_0 r0_2.length c105_0) := (blk_cell (blk_alloc BG0.out (.cells #[.int .i64 r0_0, .int .i64 r0_1, .slice A115_0 r0_2.length c115_0] 28 (0, 0))) 2).trans rfl
  go_wp2_with fail
  clear pBW0_0 pBW0_1 pBW0_2 pBG0_0 pBG0_1 pBG0_2
  clear cBA0_0 cBA0_1 cBA0_2 cBW0_0 cBW0_1 cBW0_2 cBG0_0 cBG0_1 cBG0_2
  refine (laws_eqGrammar.calls ke0 r0_0 r0_1 _ _ r0_2 r0_0 r0_1 _ _ r0_2 true _ (Kd.S_reads' (by (with_reducible repeat (first | apply Kd.S_alloc | apply Kd.S_drewN | apply Kd.S_drew)); exact O15_0.out)).2.2 (Kd.S_reads' O15_0.out).2.1 (Kd.N_reads' (by (with_reducible repeat (first | apply Kd.N_alloc | apply Kd.N_drewN | apply Kd.N_drew)); exact O3_0.out)).2.2 (Kd.N_reads' O3_0.out).2.1 hke0).mono ?_
  rintro e w16 ⟨rfl, hb⟩
  have HSZ := Aside0.mk (show w15.heap.size + 1 ≤ w16.heap.size by have h_ := hb.size; (try simp at h_); omega)
  have nB := Aside0.mk (below_step (by repeat (first | (with_reducible first | exact HB.out | apply below_alloc | apply pw_below_drewN | apply below_drew1) | exact HB.out)) hb)
  have nO3_0 := Aside0.mk (Kd.N_below (by (with_reducible repeat (first | apply Kd.N_alloc | apply Kd.N_drewN | apply Kd.N_drew)); exact O3_0.out) hb)
  have nO5_0 := Aside0.mk (Kd.S_below (by (with_reducible repeat (first | apply Kd.S_alloc | apply Kd.S_drewN | apply Kd.S_drew)); exact O5_0.out) hb)
  have nO15_0 := Aside0.mk (Kd.S_below (by (with_reducible repeat (first | apply Kd.S_alloc | apply Kd.S_drewN | apply Kd.S_drew)); exact O15_0.out) hb)
  have nBA0 := Aside0.mk (blk_below (g := w.heap.size) (o := .cells #[.int .i64 a0_0, .int .i64 a0_1, .slice A0_2 l0_2.length c0_2] 24 (0, 0)) (by (with_reducible repeat (first | refine blk_drewN ?_ _ | refine blk_drew ?_ | refine blk_alloc ?_ _)); exact BA0.out) hb)
  have nBW0 := Aside0.mk (blk_below (g := w3.heap.size) (o := .cells #[.int .i64 r0_0, .int .i64 r0_1, .slice A103_0 r0_2.length c103_0] 28 (0, 0)) (by (with_reducible repeat (first | refine blk_drewN ?_ _ | refine blk_drew ?_ | refine blk_alloc ?_ _)); exact BW0.out) hb)
  have nBG0 := Aside0.mk (blk_below (g := w5.heap.size) (o := .cells #[.int .i64 r0_0, .int .i64 r0_1, .slice A105_0 r0_2.length c105_0] 28 (0, 0)) (by (with_reducible repeat (first | refine blk_drewN ?_ _ | refine blk_drew ?_ | refine blk_alloc ?_ _)); exact BG0.out) hb)
  have nBH0 := Aside0.mk (blk_below (o := .cells #[.int .i64 r0_0, .int .i64 r0_1, .slice A115_0 r0_2.length c115_0] 28 (0, 0)) (heap_alloc_new w15 _) hb)
  clear HB O3_0 O5_0 O15_0 BA0 BW0 BG0
  have HB := nB
  have O3_0 := nO3_0
  have O5_0 := nO5_0
  have O15_0 := nO15_0
  have BA0 := nBA0
  have BW0 := nBW0
  have BG0 := nBG0
  have BH0 := nBH0
  clear nB nO3_0 nO5_0 nO15_0 nBA0 nBW0 nBG0 nBH0
  have Z16 := HSZ
  clear HSZ
  have cBA0_0 : w16.cell? ⟨w.heap.size, 0, none⟩ = some (.int .i64 a0_0) := (blk_cell BA0.out 0).trans rfl
  have cBA0_1 : w16.cell? ⟨w.heap.size, 1, none⟩ = some (.int .i64 a0_1) := (blk_cell BA0.out 1).trans rfl
  have cBA0_2 : w16.cell? ⟨w.heap.size, 2, none⟩ = some (.slice A0_2 l0_2.length c0_2) := (blk_cell BA0.out 2).trans rfl
  have cBW0_0 : w16.cell? ⟨w3.heap.size, 0, none⟩ = some (.int .i64 r0_0) := (blk_cell BW0.out 0).trans rfl
  have cBW0_1 : w16.cell? ⟨w3.heap.size, 1, none⟩ = some (.int .i64 r0_1) := (blk_cell BW0.out 1).trans rfl
  have cBW0_2 : w16.cell? ⟨w3.heap.size, 2, none⟩ = some (.slice A103_0 r0_2.length c103_0) := (blk_cell BW0.out 2).trans rfl
  have cBG0_0 : w16.cell? ⟨w5.heap.size, 0, none⟩ = some (.int .i64 r0_0) := (blk_cell BG0.out 0).trans rfl
  have cBG0_1 : w16.cell? ⟨w5.heap.size, 1, none⟩ = some (.int .i64 r0_1) := (blk_cell BG0.out 1).trans rfl
  have cBG0_2 : w16.cell? ⟨w5.heap.size, 2, none⟩ = some (.slice A105_0 r0_2.length c105_0) := (blk_cell BG0.out 2).trans rfl
  have cBH0_0 : w16.cell? ⟨w15.heap.size, 0, none⟩ = some (.int .i64 r0_0) := (blk_cell BH0.out 0).trans rfl
  have cBH0_1 : w16.cell? ⟨w15.heap.size, 1, none⟩ = some (.int .i64 r0_1) := (blk_cell BH0.out 1).trans rfl
  have cBH0_2 : w16.cell? ⟨w15.heap.size, 2, none⟩ = some (.slice A115_0 r0_2.length c115_0) := (blk_cell BH0.out 2).trans rfl
  go_wp2_with fail
  clear cBA0_0 cBA0_1 cBA0_2 cBW0_0 cBW0_1 cBW0_2 cBG0_0 cBG0_1 cBG0_2 cBH0_0 cBH0_1 cBH0_2
  have CH := fun A_ c_ w_ hr_ hc_ => heldGrammar_calls r0_0 r0_1 A_ c_ r0_2 (1) w_ hr_ hc_ (by omega) (by have := br0; omega)
  rw [← Smm0.out] at CH
  refine (CH _ _ _ (Kd.S_reads' (by (with_reducible repeat (first | apply Kd.S_alloc | apply Kd.S_drewN | apply Kd.S_drew)); exact O5_0.out)).2.2 (Kd.S_reads' O5_0.out).2.1).mono ?_
  rintro e w17 ⟨rfl, hb⟩
  clear CH
  have HSZ := Aside0.mk (show w16.heap.size + 0 ≤ w17.heap.size by have h_ := hb.size; (try simp at h_); omega)
  have nB := Aside0.mk (below_step (by repeat (first | (with_reducible first | exact HB.out | apply below_alloc | apply pw_below_drewN | apply below_drew1) | exact HB.out)) hb)
  have nO3_0 := Aside0.mk (Kd.N_below (by (with_reducible repeat (first | apply Kd.N_alloc | apply Kd.N_drewN | apply Kd.N_drew)); exact O3_0.out) hb)
  have nO5_0 := Aside0.mk (Kd.S_below (by (with_reducible repeat (first | apply Kd.S_alloc | apply Kd.S_drewN | apply Kd.S_drew)); exact O5_0.out) hb)
  have nO15_0 := Aside0.mk (Kd.S_below (by (with_reducible repeat (first | apply Kd.S_alloc | apply Kd.S_drewN | apply Kd.S_drew)); exact O15_0.out) hb)
  have nBA0 := Aside0.mk (blk_below (g := w.heap.size) (o := .cells #[.int .i64 a0_0, .int .i64 a0_1, .slice A0_2 l0_2.length c0_2] 24 (0, 0)) (by (with_reducible repeat (first | refine blk_drewN ?_ _ | refine blk_drew ?_ | refine blk_alloc ?_ _)); exact BA0.out) hb)
  have nBW0 := Aside0.mk (blk_below (g := w3.heap.size) (o := .cells #[.int .i64 r0_0, .int .i64 r0_1, .slice A103_0 r0_2.length c103_0] 28 (0, 0)) (by (with_reducible repeat (first | refine blk_drewN ?_ _ | refine blk_drew ?_ | refine blk_alloc ?_ _)); exact BW0.out) hb)
  have nBG0 := Aside0.mk (blk_below (g := w5.heap.size) (o := .cells #[.int .i64 r0_0, .int .i64 r0_1, .slice A105_0 r0_2.length c105_0] 28 (0, 0)) (by (with_reducible repeat (first | refine blk_drewN ?_ _ | refine blk_drew ?_ | refine blk_alloc ?_ _)); exact BG0.out) hb)
  have nBH0 := Aside0.mk (blk_below (g := w15.heap.size) (o := .cells #[.int .i64 r0_0, .int .i64 r0_1, .slice A115_0 r0_2.length c115_0] 28 (0, 0)) (by (with_reducible repeat (first | refine blk_drewN ?_ _ | refine blk_drew ?_ | refine blk_alloc ?_ _)); exact BH0.out) hb)
  clear HB O3_0 O5_0 O15_0 BA0 BW0 BG0 BH0
  have HB := nB
  have O3_0 := nO3_0
  have O5_0 := nO5_0
  have O15_0 := nO15_0
  have BA0 := nBA0
  have BW0 := nBW0
  have BG0 := nBG0
  have BH0 := nBH0
  clear nB nO3_0 nO5_0 nO15_0 nBA0 nBW0 nBG0 nBH0
  have Z17 := HSZ
  clear HSZ
  have cBA0_0 : w17.cell? ⟨w.heap.size, 0, none⟩ = some (.int .i64 a0_0) := (blk_cell BA0.out 0).trans rfl
  have cBA0_1 : w17.cell? ⟨w.heap.size, 1, none⟩ = some (.int .i64 a0_1) := (blk_cell BA0.out 1).trans rfl
  have cBA0_2 : w17.cell? ⟨w.heap.size, 2, none⟩ = some (.slice A0_2 l0_2.length c0_2) := (blk_cell BA0.out 2).trans rfl
  have cBW0_0 : w17.cell? ⟨w3.heap.size, 0, none⟩ = some (.int .i64 r0_0) := (blk_cell BW0.out 0).trans rfl
  have cBW0_1 : w17.cell? ⟨w3.heap.size, 1, none⟩ = some (.int .i64 r0_1) := (blk_cell BW0.out 1).trans rfl
  have cBW0_2 : w17.cell? ⟨w3.heap.size, 2, none⟩ = some (.slice A103_0 r0_2.length c103_0) := (blk_cell BW0.out 2).trans rfl
  have cBG0_0 : w17.cell? ⟨w5.heap.size, 0, none⟩ = some (.int .i64 r0_0) := (blk_cell BG0.out 0).trans rfl
  have cBG0_1 : w17.cell? ⟨w5.heap.size, 1, none⟩ = some (.int .i64 r0_1) := (blk_cell BG0.out 1).trans rfl
  have cBG0_2 : w17.cell? ⟨w5.heap.size, 2, none⟩ = some (.slice A105_0 r0_2.length c105_0) := (blk_cell BG0.out 2).trans rfl
  have cBH0_0 : w17.cell? ⟨w15.heap.size, 0, none⟩ = some (.int .i64 r0_0) := (blk_cell BH0.out 0).trans rfl
  have cBH0_1 : w17.cell? ⟨w15.heap.size, 1, none⟩ = some (.int .i64 r0_1) := (blk_cell BH0.out 1).trans rfl
  have cBH0_2 : w17.cell? ⟨w15.heap.size, 2, none⟩ = some (.slice A115_0 r0_2.length c115_0) := (blk_cell BH0.out 2).trans rfl
  go_wp2
  go_ret
  exact ⟨rfl, by repeat (first | (with_reducible first | exact HB.out | apply below_alloc | apply pw_below_drewN | apply below_drew1) | exact HB.out)⟩
end Go.Proofs.Ytekoclhnfhbmeaa.P

/-! LawFnExactReverseOf -/
/- Proved: for all arguments ReverseOf of the program returns what ReverseOf of the reference returns; it leaves its arguments as they were, and shares no memory. No condition. -/
namespace Go.Proofs.Ytekoclhnfhbmeaa.fnExactReverseOf
open Go.ChangeShapes Go.WideShapes Go.ChangeAt Go.RowKit
open Go.ChangeMaps (open_string shut_string)
set_option linter.unusedVariables false
theorem own : ownKnob Try.prog.godebug = none := by kernel_rfl
theorem laidOut : laidOutB Try.prog = true := by kernel_rfl
set_option maxRecDepth 100000 in
theorem lifted (os : Os) (started : os.Started) (H : Type) (enc : TypeId × Value → H) :
    ReturnsInHanded {} Try.checked os 13 .any (Rows.fnExactReverseOfSpec.pre6 enc Try.prog Try.f13 Rows.fnExactReverseOfRow.domain false) (Rows.fnExactReverseOfSpec.post enc Try.prog Try.f13 false true false false) := by
  refine returnsInHanded_of_change_sized (C := Try.checked) own started (by kernel_rfl) Try.func13
    (ChangeSpec.witness6 (enc := enc) (C := Try.checked) false ⟨#[], #[.agg #[.int .i64 0, .int .i64 0, .slice none 0 0]], []⟩ 8 (by kernel_rfl) (by kernel_rfl) (by kernel_rfl) (by kernel_rfl)) ?_
  intro W base args ds gs before hval0 hW hcnd hsz0 _
  have hval : ∀ (j : Nat) t v, Try.f13.params[j]? = some t → args[j]? = some v → Value.okWide Try.prog W .any base t v := hval0
  have hW' := hW
  obtain ⟨p, q, hA0, hV, rfl, hfz, hnd⟩ := hW
  have hA : DataW.TrodAll enc Try.prog W 0 (fun _ => true) true Try.f13.params.toList args.toList ds p := hA0
  rw [Try.params13] at hA hval
  obtain ⟨v0, vs0, d0, ds0, p0, q0, hargs, rfl, rfl, h0, r0⟩ := trodAll_cons hA
  obtain ⟨rfl, rfl, rfl⟩ := trodAll_nil r0
  obtain rfl : args = #[v0] := by cases args; simp_all
  obtain ⟨rfl, rfl⟩ := trodVars_none hV
  have lt0 : ∀ x ∈ p0, x.block < W.heap.size := by obtain ⟨m, hm⟩ := h0; exact DataW.trod_lt m _ _ _ hm
  have k0 := h0
  obtain ⟨a0_0, a0_1, A0_2, c0_2, l0_2, rfl, hc0_2, hr0_2⟩ := Open.open_grammar (hval 0 24 v0 rfl rfl) h0
  clear hA0 hval0 hsz0
  refine (P.holds_FnExactReverseOf W a0_0 a0_1 A0_2 c0_2 l0_2 hr0_2 hc0_2).mono fun e W' ⟨he, bel⟩ => ?_
  subst he
  exact ⟨_, rfl, _, _, _, [], _, [], hW', trodAll_mk1 (shut_bool Try.underlying4 _), (trodAll_cons_mk (Below.trod laidOut (by kernel_rfl) (of_decide_eq_true (by kernel_rfl)) k0 bel lt0) trodAll_mk0), rfl, bel.frame _, fun h => by cases h⟩
theorem over : Rows.fnExactReverseOfRow.holds Try.pinned (OpenSpec.ofChange Rows.fnExactReverseOfSpec) :=
  OpenClaim.holds_of_wide 13 Try.f13 rfl rfl rfl rfl rfl rfl rfl ⟨rfl, rfl, rfl, rfl, rfl⟩ rfl rfl rfl rfl rfl (by kernel_rfl) Try.func13 (by kernel_rfl)
    (of_decide_eq_true (by kernel_rfl)) (by unfold Func.isWrapper; first | (rw [if_pos (by decide +kernel)]; kernel_rfl) | (rw [if_neg (by decide +kernel)]; exact ⟨rfl, rfl⟩))
    (fun os started H enc _ => lifted os started H enc)
theorem proved : Rows.FnExactReverseOfSaid := over
#print axioms proved
end Go.Proofs.Ytekoclhnfhbmeaa.fnExactReverseOf
namespace Go.Proofs.Ytekoclhnfhbmeaa
/-- The row, under a short name, for the claim. -/
theorem fnExactReverseOf_holds : Rows.FnExactReverseOfSaid := fnExactReverseOf.proved
end Go.Proofs.Ytekoclhnfhbmeaa

