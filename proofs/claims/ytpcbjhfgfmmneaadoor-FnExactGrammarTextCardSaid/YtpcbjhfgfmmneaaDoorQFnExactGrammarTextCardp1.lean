/- A part of the proof of the law FnExactGrammarTextCard. -/
import Derived.Test.YtpcbjhfgfmmneaaDoorK0
import Derived.Shelf.Abstract
import Derived.Test.YtpcbjhfgfmmneaaDoorQFnExactGrammarTextCardp0
/-! Ha -/
/- slices.IndexFunc and slices.ContainsFunc over whole numbers at whatever predicate; the program's areSymbols and isWord. -/
namespace Go.Proofs.YtpcbjhfgfmmneaaDoor.P
open Go.RowKit Go.Proofs.YtpcbjhfgfmmneaaDoorW.PrintWords Go.Proofs.YtpcbjhfgfmmneaaDoorW.PrintLast Go.Proofs.YtpcbjhfgfmmneaaDoorW.PrintMore
set_option linter.unusedVariables false
set_option linter.unusedSimpArgs false

/-- The place of the first element of which p holds, -1 where there is none. -/
def idxF {α : Type} (p : α → Bool) (l : List α) : Int := if l.any p = true then (l.findIdx p : Int) else -1
theorem idxF_hit {α : Type} (p : α → Bool) (l : List α) (d : α) (i : Nat) (hi : i < l.length) (h : p (l.getD i d) = true) (hb : ∀ j, j < i → p (l.getD j d) = false) : idxF p l = i := by
  have hg : ∀ j (hj : j < l.length), l.getD j d = l[j] := fun j hj => by rw [List.getD_eq_getElem?_getD, List.getElem?_eq_getElem hj]; rfl
  have hany : l.any p = true := List.any_eq_true.mpr ⟨l[i], List.getElem_mem hi, by rw [← hg i hi]; exact h⟩
  unfold idxF
  rw [if_pos hany]
  have : l.findIdx p = i := (List.findIdx_eq hi).mpr ⟨by rw [← hg i hi]; exact h, fun j hj => by rw [← hg j (by omega)]; exact hb j hj⟩
  rw [this]
theorem idxF_miss {α : Type} (p : α → Bool) (l : List α) (d : α) (hb : ∀ j, j < l.length → p (l.getD j d) = false) : idxF p l = -1 := by
  unfold idxF
  rw [if_neg]
  intro h
  obtain ⟨x, hx, hp⟩ := List.any_eq_true.mp h
  obtain ⟨j, hj, rfl⟩ := List.getElem_of_mem hx
  have := hb j hj
  rw [List.getD_eq_getElem?_getD, List.getElem?_eq_getElem hj] at this
  simp at this
  rw [this] at hp
  cases hp
theorem idxF_any {α : Type} (p : α → Bool) (l : List α) : decide (0 ≤ idxF p l) = l.any p := by
  unfold idxF
  cases h : l.any p <;> simp <;> omega

theorem drawn_below {w w' : World} (h : Drawn0 w w') : Below w.heap.size w w' := by
  obtain ⟨n, rfl⟩ := h
  exact pw_below_drewN (Below.refl _ _) n

/-- What is asked of a predicate over whole numbers. -/
def PredI (g : Nat) (lb : Array Value) (p : Int → Bool) (w : World) : Prop :=
  ∀ (W : World) (x : Int), Below w.heap.size w W → Calls Tryd.prog g (#[.int .i64 x] ++ lb) W fun e w' => e = .returned (.bool (p x)) ∧ Below W.heap.size W w'

/-- The same, of a predicate that is asked of some numbers alone. -/
def PredID (g : Nat) (lb : Array Value) (D : Int → Prop) (p : Int → Bool) (w : World) : Prop :=
  ∀ (W : World) (x : Int), Below w.heap.size w W → D x → Calls Tryd.prog g (#[.int .i64 x] ++ lb) W fun e w' => e = .returned (.bool (p x)) ∧ Below W.heap.size W w'

set_option maxHeartbeats 2000000 in
set_option maxRecDepth 100000 in
theorem indexFunc_intD (g : Nat) (lb : Array Value) (eg : ∀ args w, (callFunc g args).run Tryd.prog w = .ok (.enter g args) w) (p : Int → Bool) (A : Option Addr) (c : Nat) (l : List Int) (w : World)
    (hr : Kd.C (Kd.int .i64) w A l.length l) (hc : l.length ≤ c) (D : Int → Prop) (hD : ∀ j : Nat, j < l.length → D (rd l j)) (hp : PredID g lb D p w) :
    Calls Tryd.prog 41 #[.slice A l.length c, .func (.func g) #[] lb] w fun e w' => e = .returned (.int .i64 (idxF p l)) ∧ Below w.heap.size w w' := by
  have hmax : l.length ≤ 9223372036854775807 := hr.2.1
  go_enter Tryd.func41, Tryd.ntmps41
  go_wp2
  go_loopg [5, 8] l.length (fun gg _ s8 wr => ∃ kk : Nat, kk ≤ l.length ∧ l.length - kk ≤ gg ∧ s8 = .int .i64 kk ∧ Aside0 (Below w.heap.size w wr) ∧ Aside0 (∀ j, j < kk → p (l.getD j 0) = false))
  case atStart => exact ⟨0, Nat.zero_le _, by omega, rfl, ⟨Below.refl _ w⟩, ⟨fun j hj => absurd hj (Nat.not_lt_zero _)⟩⟩
  case round =>
    obtain ⟨kk, hkk, hg, rfl, BW, A0⟩ := hrel
    by_cases hlt : kk < l.length
    · obtain ⟨ad, e, hx⟩ := Kd.at_int (Kd.C_below hr BW.out) (kk : Int) (by omega) (by omega)
      subst e
      have hx2 : wr.cell? (ad.add kk) = some (.int .i64 (rd l kk)) := by simpa using hx
      have hcall := hp wr (rd l kk) BW.out (hD kk hlt)
      have hB := Aside0.mk (show l.getD kk 0 = rd l kk from rfl)
      have L := Aside0.mk hlt
      have hd : decide (kk < l.length) = true := decide_eq_true hlt
      clear hx hp hr hD
      generalize rd l kk = y at hcall hB hx2
      cases hq : p y with
      | true =>
        rw [hq] at hcall
        have Q := Aside0.mk hq
        clear hq
        go_wp2_with fail
        refine hcall.mono ?_
        rintro e w' ⟨rfl, hb'⟩
        clear hcall hd eg hlt
        go_wp2
        go_ret
        refine ⟨?_, below_step BW.out hb'⟩
        rw [idxF_hit p l 0 kk L.out (by rw [hB.out]; exact Q.out) A0.out]; rfl
      | false =>
        rw [hq] at hcall
        have Q := Aside0.mk hq
        clear hq
        go_wp2_with fail
        refine hcall.mono ?_
        rintro e w' ⟨rfl, hb'⟩
        clear hcall hd eg
        go_wp2
        go_roundg (l.length - (kk + 1))
        case measure => have := L.out; omega
        case rel =>
          refine ⟨kk + 1, by have := L.out; omega, by omega, by go_num, ⟨below_step BW.out hb'⟩, ⟨fun j hj => ?_⟩⟩
          by_cases ej : j = kk
          · subst ej
            rw [hB.out]; exact Q.out
          · exact A0.out j (by omega)
    · have hd : decide (kk < l.length) = false := decide_eq_false hlt
      have L := Aside0.mk (show kk = l.length by omega)
      clear hp hr hlt hD
      go_wp2
      go_ret
      refine ⟨?_, BW.out⟩
      rw [idxF_miss p l 0 (by have := A0.out; rw [L.out] at this; exact this)]; rfl

set_option maxHeartbeats 2000000 in
theorem containsFunc_intD (g : Nat) (lb : Array Value) (eg : ∀ args w, (callFunc g args).run Tryd.prog w = .ok (.enter g args) w) (p : Int → Bool) (A : Option Addr) (c : Nat) (l : List Int) (w : World)
    (hr : Kd.C (Kd.int .i64) w A l.length l) (hc : l.length ≤ c) (D : Int → Prop) (hD : ∀ j : Nat, j < l.length → D (rd l j)) (hp : PredID g lb D p w) :
    Calls Tryd.prog 34 #[.slice A l.length c, .func (.func g) #[] lb] w fun e w' => e = .returned (.bool (l.any p)) ∧ Below w.heap.size w w' := by
  have H := indexFunc_intD g lb eg p A c l w hr hc D hD hp
  have hz := Aside0.mk (idxF_any p l)
  generalize idxF p l = i at H hz
  go_enter Tryd.func34, Tryd.ntmps34
  go_wp2_with (go_at_call 41; refine H.mono ?_; rintro e w' ⟨rfl, hb'⟩)
  go_ret
  exact ⟨by rw [← hz.out]; rfl, hb'⟩

theorem containsFunc_int (g : Nat) (lb : Array Value) (eg : ∀ args w, (callFunc g args).run Tryd.prog w = .ok (.enter g args) w) (p : Int → Bool) (A : Option Addr) (c : Nat) (l : List Int) (w : World)
    (hr : Kd.C (Kd.int .i64) w A l.length l) (hc : l.length ≤ c) (hp : PredI g lb p w) :
    Calls Tryd.prog 34 #[.slice A l.length c, .func (.func g) #[] lb] w fun e w' => e = .returned (.bool (l.any p)) ∧ Below w.heap.size w w' :=
  containsFunc_intD g lb eg p A c l w hr hc (fun _ => True) (fun _ _ => trivial) (fun W x hb _ => hp W x hb)

/-- Is a number a symbol? -/
def symB (nons toks x : Int) : Bool := decide (wrap64 (-toks) ≤ x ∧ x ≤ wrap64 (nons - 1))
theorem impl_in_eq (a b c : Int) : impl_in.f a b c = some (decide (b ≤ a ∧ a ≤ c)) := by
  unfold impl_in.f
  by_cases h : a ≥ b
  · rw [if_pos h]; congr 2; simp; omega
  · rw [if_neg h]; simp; omega
theorem impl_isSymbol_eq (x nons toks : Int) : impl_isSymbol.f x nons toks = some (symB nons toks x) := by
  unfold impl_isSymbol.f symB
  rw [impl_in_eq]; rfl

set_option maxHeartbeats 2000000 in
theorem pred_sym (nons toks : Int) (B C : Nat) (w : World) (hB : B < w.heap.size) (hC : C < w.heap.size) (hcB : w.cell? ⟨B, 0, none⟩ = some (.int .i64 nons)) (hcC : w.cell? ⟨C, 0, none⟩ = some (.int .i64 toks)) :
    PredI 35 #[.pointer (some ⟨B, 0, none⟩), .pointer (some ⟨C, 0, none⟩)] (fun x => !symB nons toks x) w := fun W x hb => by
  have h1 : W.cell? ⟨B, 0, none⟩ = some (.int .i64 nons) := (hb.cell (p := ⟨B, 0, none⟩) hB).trans hcB
  have h2 : W.cell? ⟨C, 0, none⟩ = some (.int .i64 toks) := (hb.cell (p := ⟨C, 0, none⟩) hC).trans hcC
  have hc := fun w => impl_isSymbol.calls x nons toks _ w (impl_isSymbol_eq x nons toks)
  clear hb hcB hcC
  show Calls Tryd.prog 35 #[.int .i64 x, .pointer (some ⟨B, 0, none⟩), .pointer (some ⟨C, 0, none⟩)] W fun e w' => e = .returned (.bool (!symB nons toks x)) ∧ Below W.heap.size W w'
  generalize symB nons toks x = b at hc ⊢
  go_enter Tryd.func35, Tryd.ntmps35
  go_wp2_with (go_at_call 36; refine (hc _).mono ?_; rintro e w' ⟨rfl, hd⟩)
  go_ret
  exact ⟨rfl, drawn_below hd⟩

def impl_areSymbols.f (l0 : List Int) (a1 a2 : Int) : Option Bool := some (!(l0.any fun x => !symB a1 a2 x))
set_option maxHeartbeats 2000000 in
theorem impl_areSymbols.calls (A0 : Option Addr) (c0 : Nat) (l0 : List Int) (a1 a2 : Int) (r : Bool) (w : World) (hr0 : Kd.C (Kd.int .i64) w A0 l0.length l0) (hc0 : l0.length ≤ c0) (h : impl_areSymbols.f l0 a1 a2 = some r) :
    Calls Tryd.prog 24 #[.slice A0 l0.length c0, .int .i64 a1, .int .i64 a2] w fun e w' => e = .returned (.bool r) ∧ Below w.heap.size w w' := by
  obtain rfl := Option.some.inj h
  clear h
  have eg : ∀ args w, (callFunc 35 args).run Tryd.prog w = .ok (.enter 35 args) w := enters_of Tryd.func35 (by kernel_rfl) rfl
  have H := Aside0.mk fun (W : World) (B C : Nat) (hW : Below w.heap.size w W) (hB : B < W.heap.size) (hC : C < W.heap.size) (hcB : W.cell? ⟨B, 0, none⟩ = some (.int .i64 a1)) (hcC : W.cell? ⟨C, 0, none⟩ = some (.int .i64 a2)) =>
    containsFunc_int _ #[.pointer (some ⟨B, 0, none⟩), .pointer (some ⟨C, 0, none⟩)] eg (fun x => !symB a1 a2 x) A0 c0 l0 W (Kd.C_below hr0 hW) hc0 (pred_sym a1 a2 B C W hB hC hcB hcC)
  clear hr0 hc0
  generalize (l0.any fun x => !symB a1 a2 x) = b at H ⊢
  go_enter Tryd.func24, Tryd.ntmps24
  go_wp2_with (go_at_call 34; refine (H.out _ _ _ (by repeat (first | exact Below.refl _ _ | apply below_alloc)) (by simp <;> omega) (by simp <;> omega) (by simp) (by simp)).mono ?_; rintro e w' ⟨rfl, hb'⟩)
  go_ret
  exact ⟨rfl, below_step (by repeat (first | exact Below.refl _ _ | apply below_alloc)) hb'⟩
end Go.Proofs.YtpcbjhfgfmmneaaDoor.P

/-! F38 -/
namespace Go.Proofs.YtpcbjhfgfmmneaaDoor.P
open Go.RowKit Go.Proofs.YtpcbjhfgfmmneaaDoorW.PrintWords Go.Proofs.YtpcbjhfgfmmneaaDoorW.PrintLast Go.Proofs.YtpcbjhfgfmmneaaDoorW.PrintMore
attribute [local go_sem] max2_int min2_int max_two min_two max_three min_three max_four min_four   -- for this text's walks alone
set_option linter.unusedVariables false
set_option linter.unusedSimpArgs false

/-! ### slices_Equal_int_int: function 38 -/
def slices_Equal_int_int.l0 : Nat → List Int → List Int → Int → Int → Option (Bool)
  | 0, _, _, _, _ => none
  | k + 1, x0, x1, x12, x13 => if x13 < x12 then (if 0 ≤ x13 then (if x13 < (x0.length : Int) then (if x13 < (x1.length : Int) then (if (rd x0 x13) = (rd x1 x13) then (slices_Equal_int_int.l0 k x0 x1 x12 (wrap64 (x13 + 1))) else (some false)) else (none)) else (none)) else (none)) else (some true)
def slices_Equal_int_int.f (k : Nat) (l0 : List Int) (l1 : List Int) : Option (Bool) := if (l0.length : Int) = (l1.length : Int) then (slices_Equal_int_int.l0 k l0 l1 (l0.length : Int) 0) else (some false)
theorem slices_Equal_int_int.mono_l : ∀ k, (∀ y0 y1 y2 y3, LeO (slices_Equal_int_int.l0 k y0 y1 y2 y3) (slices_Equal_int_int.l0 (k + 1) y0 y1 y2 y3))
  | 0 => fun _ _ _ _ r h => by simp [slices_Equal_int_int.l0] at h
  | k + 1 => by
    have ih0 := slices_Equal_int_int.mono_l k
    · intro y0 y1 y2 y3
      unfold slices_Equal_int_int.l0
      repeat' first
      | (with_reducible exact ih0 _ _ _ _)
      | (with_reducible exact LeO.refl _)
      | (with_reducible exact LeO.none _)
      | (with_reducible refine LeO.ite ?_ ?_)
      | (with_reducible refine LeO.bind ?_ (fun _ => ?_))
      | exact ih0 _ _ _ _
      | exact LeO.none _
      | refine LeO.ite ?_ ?_
      | refine LeO.bind ?_ (fun _ => ?_)
theorem slices_Equal_int_int.mono : ∀ a0 a1 k, LeO (slices_Equal_int_int.f k a0 a1) (slices_Equal_int_int.f (k + 1) a0 a1) := by
  intro a0 a1 k
  have ih0 := slices_Equal_int_int.mono_l k
  unfold slices_Equal_int_int.f
  repeat' first
      | (with_reducible exact ih0 _ _ _ _)
      | (with_reducible exact LeO.refl _)
      | (with_reducible exact LeO.none _)
      | (with_reducible refine LeO.ite ?_ ?_)
      | (with_reducible refine LeO.bind ?_ (fun _ => ?_))
      | exact ih0 _ _ _ _
      | exact LeO.none _
      | refine LeO.ite ?_ ?_
      | refine LeO.bind ?_ (fun _ => ?_)
set_option maxHeartbeats 8000000 in
set_option maxRecDepth 100000 in
theorem slices_Equal_int_int.calls (k : Nat) (A0 : Option Addr) (c0 : Nat) (l0 : List Int) (A1 : Option Addr) (c1 : Nat) (l1 : List Int) (r : Bool) (w : World) (hr0 : Kd.C (Kd.int .i64) w A0 l0.length l0) (hc0 : l0.length ≤ c0) (hr1 : Kd.C (Kd.int .i64) w A1 l1.length l1) (hc1 : l1.length ≤ c1) (h : slices_Equal_int_int.f k l0 l1 = some r) :
    Calls Tryd.prog 38 #[.slice A0 l0.length c0, .slice A1 l1.length c1] w fun e w' => e = .returned (.bool r) ∧ Drawn0 w w' := by
  have HR0 := Aside0.mk hr0
  have HC0 := Aside0.mk hc0
  clear hr0 hc0
  have HR1 := Aside0.mk hr1
  have HC1 := Aside0.mk hc1
  clear hr1 hc1
  have H : (if (l0.length : Int) = (l1.length : Int) then (slices_Equal_int_int.l0 k l0 l1 (l0.length : Int) 0) else (some false)) = some r := h
  clear h
  by_cases c3 : (l0.length : Int) = (l1.length : Int)
  · rw [if_pos c3] at H
    have c3b0 : ((l0.length : Int) == (l1.length : Int)) = true := beq_iff_eq.mpr c3
    have c3b1 : ((l0.length : Int) != (l1.length : Int)) = false := bne_eq_false_iff_eq.mpr c3
    have c3b2 : (l0.length == l1.length) = true := by first | simpa using c3 | (simp at c3 ⊢; omega)
    clear c3
    have H' := Aside0.mk H
    clear H
    go_enter Tryd.func38, Tryd.ntmps38
    go_wp2
    repeat (go_quiet (fail); try go_wp2)
    go_loopg [13] k (fun kq v13 w' => ∃ (x13_1 : Int), v13 = .int .i64 x13_1 ∧ Aside0 (slices_Equal_int_int.l0 kq l0 l1 (l0.length : Int) x13_1 = some r) ∧ Aside0 (kq ≤ k) ∧ Drawn0 w w')
    case atStart => exact ⟨(0), (by first | rfl | (simp; done) | (simp [*]; done)), H', ⟨Nat.le_refl _⟩, by repeat (first | exact Drawn0.refl _ | apply Drawn0.step)⟩
    case round =>
      clear H'
      try clear c1
      try clear p2
      try clear c3
      try clear c3b0
      try clear c3b1
      try clear c3b2
      obtain ⟨x13_1, rfl, HA, HK1, ⟨m1, rfl⟩⟩ := hrel
      cases gk with
      | zero => exact absurd HA.out (by simp [slices_Equal_int_int.l0])
      | succ k1 =>
        have H := HA.out
        clear HA
        simp only [slices_Equal_int_int.l0] at H
        by_cases c4 : x13_1 < (l0.length : Int)
        · rw [if_pos c4] at H
          have c4b0 : decide (x13_1 < (l0.length : Int)) = true := decide_eq_true c4
          clear c4
          by_cases c5 : 0 ≤ x13_1
          · rw [if_pos c5] at H
            have c5b0 : decide (0 ≤ x13_1) = true := decide_eq_true c5
            clear c5
            by_cases c6 : x13_1 < (l0.length : Int)
            · rw [if_pos c6] at H
              have c6b0 : decide (x13_1 < (l0.length : Int)) = true := decide_eq_true c6
              clear c6
              by_cases c7 : x13_1 < (l1.length : Int)
              · rw [if_pos c7] at H
                have c7b0 : decide (x13_1 < (l1.length : Int)) = true := decide_eq_true c7
                clear c7
                by_cases c8 : (rd l0 x13_1) = (rd l1 x13_1)
                · rw [if_pos c8] at H
                  have c8b0 : ((rd l0 x13_1) == (rd l1 x13_1)) = true := beq_iff_eq.mpr c8
                  have c8b1 : ((rd l0 x13_1) != (rd l1 x13_1)) = false := bne_eq_false_iff_eq.mpr c8
                  clear c8
                  have H' := Aside0.mk H
                  clear H
                  have p101 : 0 ≤ (x13_1 : Int) := of_decide_eq_true (by first | (with_reducible assumption) | assumption)
                  have q101 : x13_1 < (l0.length : Int) := of_decide_eq_true (by first | (with_reducible assumption) | assumption)
                  obtain ⟨ad101, e101, hx101_0⟩ := Kd.at_int HR0.out x13_1 p101 q101
                  cases e101
                  replace p101 := eq_true p101
                  replace q101 := eq_true q101
                  have p102 : 0 ≤ (x13_1 : Int) := of_decide_eq_true (by first | (with_reducible assumption) | assumption)
                  have q102 : x13_1 < (l1.length : Int) := of_decide_eq_true (by first | (with_reducible assumption) | assumption)
                  obtain ⟨ad102, e102, hx102_0⟩ := Kd.at_int HR1.out x13_1 p102 q102
                  cases e102
                  replace p102 := eq_true p102
                  replace q102 := eq_true q102
                  go_wp2
                  repeat (go_quiet (fail); try go_wp2)
                  go_roundg k1
                  case measure => have := HK1.out; omega
                  case rel => exact ⟨(wrap64 (x13_1 + 1)), (by first | rfl | (simp; done) | (simp [*]; done)), H', ⟨by have := HK1.out; omega⟩, by repeat (first | exact Drawn0.refl _ | apply Drawn0.step)⟩
                · rw [if_neg c8] at H
                  have c8b0 : ((rd l0 x13_1) == (rd l1 x13_1)) = false := beq_eq_false_iff_ne.mpr c8
                  have c8b1 : ((rd l0 x13_1) != (rd l1 x13_1)) = true := bne_iff_ne.mpr c8
                  obtain rfl := Option.some.inj H
                  have p101 : 0 ≤ (x13_1 : Int) := of_decide_eq_true (by first | (with_reducible assumption) | assumption)
                  have q101 : x13_1 < (l0.length : Int) := of_decide_eq_true (by first | (with_reducible assumption) | assumption)
                  obtain ⟨ad101, e101, hx101_0⟩ := Kd.at_int HR0.out x13_1 p101 q101
                  cases e101
                  replace p101 := eq_true p101
                  replace q101 := eq_true q101
                  have p102 : 0 ≤ (x13_1 : Int) := of_decide_eq_true (by first | (with_reducible assumption) | assumption)
                  have q102 : x13_1 < (l1.length : Int) := of_decide_eq_true (by first | (with_reducible assumption) | assumption)
                  obtain ⟨ad102, e102, hx102_0⟩ := Kd.at_int HR1.out x13_1 p102 q102
                  cases e102
                  replace p102 := eq_true p102
                  replace q102 := eq_true q102
                  go_wp2
                  repeat (go_quiet (fail); try go_wp2)
                  go_ret
                  exact ⟨by first | rfl | (simp; done) | (simp [*]; done), by repeat (first | exact Drawn0.refl _ | apply Drawn0.step)⟩
              · rw [if_neg c7] at H
                exact absurd H (by simp)
            · rw [if_neg c6] at H
              exact absurd H (by simp)
          · rw [if_neg c5] at H
            exact absurd H (by simp)
        · rw [if_neg c4] at H
          have c4b0 : decide (x13_1 < (l0.length : Int)) = false := decide_eq_false c4
          clear c4
          obtain rfl := Option.some.inj H
          go_wp2
          repeat (go_quiet (fail); try go_wp2)
          go_ret
          exact ⟨by first | rfl | (simp; done) | (simp [*]; done), by repeat (first | exact Drawn0.refl _ | apply Drawn0.step)⟩
  · rw [if_neg c3] at H
    have c3b0 : ((l0.length : Int) == (l1.length : Int)) = false := beq_eq_false_iff_ne.mpr c3
    have c3b1 : ((l0.length : Int) != (l1.length : Int)) = true := bne_iff_ne.mpr c3
    have c3b2 : (l0.length == l1.length) = false := by first | simpa using c3 | (simp at c3 ⊢; omega)
    obtain rfl := Option.some.inj H
    go_enter Tryd.func38, Tryd.ntmps38
    go_wp2
    repeat (go_quiet (fail); try go_wp2)
    go_ret
    exact ⟨by first | rfl | (simp; done) | (simp [*]; done), by repeat (first | exact Drawn0.refl _ | apply Drawn0.step)⟩

end Go.Proofs.YtpcbjhfgfmmneaaDoor.P

/-! F27 -/
namespace Go.Proofs.YtpcbjhfgfmmneaaDoor.P
open Go.RowKit Go.Proofs.YtpcbjhfgfmmneaaDoorW.PrintWords Go.Proofs.YtpcbjhfgfmmneaaDoorW.PrintLast Go.Proofs.YtpcbjhfgfmmneaaDoorW.PrintMore
attribute [local go_sem] max2_int min2_int max_two min_two max_three min_three max_four min_four   -- for this text's walks alone
set_option linter.unusedVariables false
set_option linter.unusedSimpArgs false

/-! ### impl_sameRule: function 27 -/
def impl_sameRule.f (k : Nat) (a0_0 : Int) (l0_1 : List Int) (a1_0 : Int) (l1_1 : List Int) : Option (Bool) := if a0_0 = a1_0 then ((slices_Equal_int_int.f k l0_1 l1_1).bind fun t103 => (some t103)) else (some false)
theorem impl_sameRule.mono : ∀ a0 a1 a2 a3 k, LeO (impl_sameRule.f k a0 a1 a2 a3) (impl_sameRule.f (k + 1) a0 a1 a2 a3) := by
  intro a0 a1 a2 a3 k
  unfold impl_sameRule.f
  repeat' first
      | (with_reducible exact slices_Equal_int_int.mono _ _ _)
      | (with_reducible exact LeO.refl _)
      | (with_reducible exact LeO.none _)
      | (with_reducible refine LeO.ite ?_ ?_)
      | (with_reducible refine LeO.bind ?_ (fun _ => ?_))
      | exact slices_Equal_int_int.mono _ _ _
      | exact LeO.none _
      | refine LeO.ite ?_ ?_
      | refine LeO.bind ?_ (fun _ => ?_)
set_option maxHeartbeats 8000000 in
set_option maxRecDepth 100000 in
theorem impl_sameRule.calls (k : Nat) (a0_0 : Int) (A0_1 : Option Addr) (c0_1 : Nat) (l0_1 : List Int) (a1_0 : Int) (A1_1 : Option Addr) (c1_1 : Nat) (l1_1 : List Int) (r : Bool) (w : World) (hr0_1 : Kd.C (Kd.int .i64) w A0_1 l0_1.length l0_1) (hc0_1 : l0_1.length ≤ c0_1) (hr1_1 : Kd.C (Kd.int .i64) w A1_1 l1_1.length l1_1) (hc1_1 : l1_1.length ≤ c1_1) (h : impl_sameRule.f k a0_0 l0_1 a1_0 l1_1 = some r) :
    Calls Tryd.prog 27 #[.agg #[.int .i64 a0_0, .slice A0_1 l0_1.length c0_1], .agg #[.int .i64 a1_0, .slice A1_1 l1_1.length c1_1]] w fun e w' => e = .returned (.bool r) ∧ Below w.heap.size w w' := by
  have hu44 := Tryd.underlying44
  have HR0_1 := Aside0.mk hr0_1
  have HC0_1 := Aside0.mk hc0_1
  clear hr0_1 hc0_1
  have HR1_1 := Aside0.mk hr1_1
  have HC1_1 := Aside0.mk hc1_1
  clear hr1_1 hc1_1
  have HB := Aside0.mk (Below.refl w.heap.size w)
  have H : (if a0_0 = a1_0 then ((slices_Equal_int_int.f k l0_1 l1_1).bind fun t103 => (some t103)) else (some false)) = some r := h
  clear h
  by_cases c3 : a0_0 = a1_0
  · rw [if_pos c3] at H
    have c3b0 : (a0_0 == a1_0) = true := beq_iff_eq.mpr c3
    have c3b1 : (a0_0 != a1_0) = false := bne_eq_false_iff_eq.mpr c3
    clear c3
    replace H := Option.bind_eq_some_iff.mp H
    obtain ⟨t103, A40, H⟩ := H
    replace H : (some t103) = some r := H
    have A4 := Aside0.mk A40
    clear A40
    obtain rfl := Option.some.inj H
    go_enter Tryd.func27, Tryd.ntmps27
    go_wp2_with (first | ((with_reducible refine gate_dst (N := 2) rfl ?_); refine box_event ?hg (N := 2) ?hd (cs := #[.int .i64 a0_0, .slice A0_1 l0_1.length c0_1]) (t := 44) ?hr ?_; (case hd => rfl); (case hg => rfl); (case hr => first | (go_simp; done) | (go_simp; rfl)); intro gb101 hg w5 hbox hb; have n0_ := Aside0.mk (below_step (by repeat (first | (with_reducible first | exact HB.out | apply below_alloc | apply pw_below_drewN | apply below_drew1) | exact HB.out)) hb); have n1_ := Aside0.mk (hbox); have n2_ := Aside0.mk ((by rw [hg]; exact (below_size (by repeat (first | (with_reducible first | exact HB.out | apply below_alloc | apply pw_below_drewN | apply below_drew1) | exact HB.out))) : w.heap.size ≤ gb101)); have n3_ := Aside0.mk ((by rw [hg]; exact (below_size (by repeat (first | (with_reducible first | exact HB.out | apply below_alloc | apply pw_below_drewN | apply below_drew1) | exact HB.out))) : w.heap.size ≤ gb101)); clear HB; have HB := n0_; have BK101 := n1_; have GW101 := n2_; have GE101 := n3_; clear n0_ n1_ n2_ n3_; clear hb hbox hg) | ((with_reducible refine gate_dst (N := 3) rfl ?_); refine box_event ?hg (N := 3) ?hd (cs := #[.int .i64 a1_0, .slice A1_1 l1_1.length c1_1]) (t := 44) ?hr ?_; (case hd => rfl); (case hg => rfl); (case hr => first | (go_simp; done) | (go_simp; rfl)); intro gb102 hg w6 hbox hb; have n0_ := Aside0.mk (blk_below (g := gb101) (o := .cells #[.int .i64 a0_0, .slice A0_1 l0_1.length c0_1] 44 (0, 0)) (by (with_reducible repeat (first | refine blk_drewN ?_ _ | refine blk_drew ?_ | refine blk_alloc ?_ _)); exact BK101.out) hb); have n1_ := Aside0.mk (below_step (by repeat (first | (with_reducible first | exact HB.out | apply below_alloc | apply pw_below_drewN | apply below_drew1 | refine below_set ?_ GE101.out) | exact HB.out)) hb); have n2_ := Aside0.mk (hbox); have n3_ := Aside0.mk ((by rw [hg]; exact (below_size (by repeat (first | (with_reducible first | exact HB.out | apply below_alloc | apply pw_below_drewN | apply below_drew1 | refine below_set ?_ GE101.out) | exact HB.out))) : w.heap.size ≤ gb102)); have n4_ := Aside0.mk ((by rw [hg]; exact (below_size (by repeat (first | (with_reducible first | exact HB.out | apply below_alloc | apply pw_below_drewN | apply below_drew1 | refine below_set ?_ GE101.out) | exact HB.out))) : w.heap.size ≤ gb102)); have n5_ := Aside0.mk ((by rw [hg]; exact Nat.ne_of_lt (blk_lt (g := gb101) (o := .cells #[.int .i64 a0_0, .slice A0_1 l0_1.length c0_1] 44 (0, 0)) (by (with_reducible repeat (first | refine blk_drewN ?_ _ | refine blk_drew ?_ | refine blk_alloc ?_ _)); exact BK101.out)) : gb101 ≠ gb102)); have n6_ := Aside0.mk ((by rw [hg]; exact Nat.ne_of_gt (blk_lt (g := gb101) (o := .cells #[.int .i64 a0_0, .slice A0_1 l0_1.length c0_1] 44 (0, 0)) (by (with_reducible repeat (first | refine blk_drewN ?_ _ | refine blk_drew ?_ | refine blk_alloc ?_ _)); exact BK101.out)) : gb102 ≠ gb101)); clear BK101; clear HB; have BK101 := n0_; have HB := n1_; have BK102 := n2_; have GW102 := n3_; have GE102 := n4_; have NB101_102 := n5_; have NB102_101 := n6_; clear n0_ n1_ n2_ n3_ n4_ n5_ n6_; clear hb hbox hg; have hnb7 := NB101_102.out; have hnc7 := NB102_101.out; have hcz8_0 : w6.cell? ⟨gb101, 0, none⟩ = some (.int .i64 a0_0) := (blk_cell BK101.out 0).trans rfl; have hcz8_1 : w6.cell? ⟨gb101, 1, none⟩ = some (.slice A0_1 l0_1.length c0_1) := (blk_cell BK101.out 1).trans rfl; have hfz8_0 := blk_frozen BK101.out 0; have hfz8_1 := blk_frozen BK101.out 1; have hcz9_0 : w6.cell? ⟨gb102, 0, none⟩ = some (.int .i64 a1_0) := (blk_cell BK102.out 0).trans rfl; have hcz9_1 : w6.cell? ⟨gb102, 1, none⟩ = some (.slice A1_1 l1_1.length c1_1) := (blk_cell BK102.out 1).trans rfl; have hfz9_0 := blk_frozen BK102.out 0; have hfz9_1 := blk_frozen BK102.out 1) | (go_at_call 38; (with_reducible refine (slices_Equal_int_int.calls k _ _ l0_1 _ _ l1_1 t103 _ ?side1 ?side2 ?side3 ?side4 A4.out).mono ?_); (case side1 => repeat (first | exact (Kd.C_below HR0_1.out HB.out) | (with_reducible refine Kd.C_alloc ?_ _) | (with_reducible refine Kd.C_drewN ?_ _) | (with_reducible refine Kd.C_drew ?_))); (case side2 => exact HC0_1.out); (case side3 => repeat (first | exact (Kd.C_below HR1_1.out HB.out) | (with_reducible refine Kd.C_alloc ?_ _) | (with_reducible refine Kd.C_drewN ?_ _) | (with_reducible refine Kd.C_drew ?_))); (case side4 => exact HC1_1.out); rintro e w' ⟨rfl, ⟨nd, rfl⟩⟩))
    go_ret
    exact ⟨by first | rfl | (simp [errW_none, errW_some] <;> rfl) | (simp [*, errW_none, errW_some] <;> rfl), by repeat (first | (with_reducible first | exact HB.out | apply below_alloc | apply pw_below_drewN | apply below_drew1 | refine below_set ?_ GE101.out | refine below_set ?_ GE102.out) | exact HB.out)⟩
  · rw [if_neg c3] at H
    have c3b0 : (a0_0 == a1_0) = false := beq_eq_false_iff_ne.mpr c3
    have c3b1 : (a0_0 != a1_0) = true := bne_iff_ne.mpr c3
    obtain rfl := Option.some.inj H
    go_enter Tryd.func27, Tryd.ntmps27
    go_wp2_with (first | ((with_reducible refine gate_dst (N := 2) rfl ?_); refine box_event ?hg (N := 2) ?hd (cs := #[.int .i64 a0_0, .slice A0_1 l0_1.length c0_1]) (t := 44) ?hr ?_; (case hd => rfl); (case hg => rfl); (case hr => first | (go_simp; done) | (go_simp; rfl)); intro gb101 hg w10 hbox hb; have n0_ := Aside0.mk (below_step (by repeat (first | (with_reducible first | exact HB.out | apply below_alloc | apply pw_below_drewN | apply below_drew1) | exact HB.out)) hb); have n1_ := Aside0.mk (hbox); have n2_ := Aside0.mk ((by rw [hg]; exact (below_size (by repeat (first | (with_reducible first | exact HB.out | apply below_alloc | apply pw_below_drewN | apply below_drew1) | exact HB.out))) : w.heap.size ≤ gb101)); have n3_ := Aside0.mk ((by rw [hg]; exact (below_size (by repeat (first | (with_reducible first | exact HB.out | apply below_alloc | apply pw_below_drewN | apply below_drew1) | exact HB.out))) : w.heap.size ≤ gb101)); clear HB; have HB := n0_; have BK101 := n1_; have GW101 := n2_; have GE101 := n3_; clear n0_ n1_ n2_ n3_; clear hb hbox hg) | ((with_reducible refine gate_dst (N := 3) rfl ?_); refine box_event ?hg (N := 3) ?hd (cs := #[.int .i64 a1_0, .slice A1_1 l1_1.length c1_1]) (t := 44) ?hr ?_; (case hd => rfl); (case hg => rfl); (case hr => first | (go_simp; done) | (go_simp; rfl)); intro gb102 hg w11 hbox hb; have n0_ := Aside0.mk (blk_below (g := gb101) (o := .cells #[.int .i64 a0_0, .slice A0_1 l0_1.length c0_1] 44 (0, 0)) (by (with_reducible repeat (first | refine blk_drewN ?_ _ | refine blk_drew ?_ | refine blk_alloc ?_ _)); exact BK101.out) hb); have n1_ := Aside0.mk (below_step (by repeat (first | (with_reducible first | exact HB.out | apply below_alloc | apply pw_below_drewN | apply below_drew1 | refine below_set ?_ GE101.out) | exact HB.out)) hb); have n2_ := Aside0.mk (hbox); have n3_ := Aside0.mk ((by rw [hg]; exact (below_size (by repeat (first | (with_reducible first | exact HB.out | apply below_alloc | apply pw_below_drewN | apply below_drew1 | refine below_set ?_ GE101.out) | exact HB.out))) : w.heap.size ≤ gb102)); have n4_ := Aside0.mk ((by rw [hg]; exact (below_size (by repeat (first | (with_reducible first | exact HB.out | apply below_alloc | apply pw_below_drewN | apply below_drew1 | refine below_set ?_ GE101.out) | exact HB.out))) : w.heap.size ≤ gb102)); have n5_ := Aside0.mk ((by rw [hg]; exact Nat.ne_of_lt (blk_lt (g := gb101) (o := .cells #[.int .i64 a0_0, .slice A0_1 l0_1.length c0_1] 44 (0, 0)) (by (with_reducible repeat (first | refine blk_drewN ?_ _ | refine blk_drew ?_ | refine blk_alloc ?_ _)); exact BK101.out)) : gb101 ≠ gb102)); have n6_ := Aside0.mk ((by rw [hg]; exact Nat.ne_of_gt (blk_lt (g := gb101) (o := .cells #[.int .i64 a0_0, .slice A0_1 l0_1.length c0_1] 44 (0, 0)) (by (with_reducible repeat (first | refine blk_drewN ?_ _ | refine blk_drew ?_ | refine blk_alloc ?_ _)); exact BK101.out)) : gb102 ≠ gb101)); clear BK101; clear HB; have BK101 := n0_; have HB := n1_; have BK102 := n2_; have GW102 := n3_; have GE102 := n4_; have NB101_102 := n5_; have NB102_101 := n6_; clear n0_ n1_ n2_ n3_ n4_ n5_ n6_; clear hb hbox hg; have hnb12 := NB101_102.out; have hnc12 := NB102_101.out; have hcz13_0 : w11.cell? ⟨gb101, 0, none⟩ = some (.int .i64 a0_0) := (blk_cell BK101.out 0).trans rfl; have hcz13_1 : w11.cell? ⟨gb101, 1, none⟩ = some (.slice A0_1 l0_1.length c0_1) := (blk_cell BK101.out 1).trans rfl; have hfz13_0 := blk_frozen BK101.out 0; have hfz13_1 := blk_frozen BK101.out 1; have hcz14_0 : w11.cell? ⟨gb102, 0, none⟩ = some (.int .i64 a1_0) := (blk_cell BK102.out 0).trans rfl; have hcz14_1 : w11.cell? ⟨gb102, 1, none⟩ = some (.slice A1_1 l1_1.length c1_1) := (blk_cell BK102.out 1).trans rfl; have hfz14_0 := blk_frozen BK102.out 0; have hfz14_1 := blk_frozen BK102.out 1))
    go_ret
    exact ⟨by first | rfl | (simp [errW_none, errW_some] <;> rfl) | (simp [*, errW_none, errW_some] <;> rfl), by repeat (first | (with_reducible first | exact HB.out | apply below_alloc | apply pw_below_drewN | apply below_drew1 | refine below_set ?_ GE101.out | refine below_set ?_ GE102.out) | exact HB.out)⟩

end Go.Proofs.YtpcbjhfgfmmneaaDoor.P

/-! Hb -/
/- slices.IndexFunc and slices.ContainsFunc over rules at whatever predicate; the program's isGrammar. -/
namespace Go.Proofs.YtpcbjhfgfmmneaaDoor.P
open Go.RowKit Go.Proofs.YtpcbjhfgfmmneaaDoorW.PrintWords Go.Proofs.YtpcbjhfgfmmneaaDoorW.PrintLast Go.Proofs.YtpcbjhfgfmmneaaDoorW.PrintMore
set_option linter.unusedVariables false
set_option linter.unusedSimpArgs false

/-- What is asked of a predicate over rules. -/
def PredR (g : Nat) (lb : Array Value) (p : S44 → Bool) (w : World) : Prop :=
  ∀ (W : World) (x : S44) (A : Option Addr) (c : Nat), Below w.heap.size w W → x.f1.length ≤ c → Kd.C (Kd.int .i64) W A x.f1.length x.f1 →
    Calls Tryd.prog g (#[.agg #[.int .i64 x.f0, .slice A x.f1.length c]] ++ lb) W fun e w' => e = .returned (.bool (p x)) ∧ Below W.heap.size W w'

set_option maxHeartbeats 2000000 in
set_option maxRecDepth 100000 in
theorem indexFunc_rule (g : Nat) (lb : Array Value) (eg : ∀ args w, (callFunc g args).run Tryd.prog w = .ok (.enter g args) w) (p : S44 → Bool) (A : Option Addr) (c : Nat) (l : List S44) (w : World)
    (hr : Kd.C k44 w A l.length l) (hc : l.length ≤ c) (hp : PredR g lb p w) :
    Calls Tryd.prog 37 #[.slice A l.length c, .func (.func g) #[] lb] w fun e w' => e = .returned (.int .i64 (idxF p l)) ∧ Below w.heap.size w w' := by
  have hmax : l.length ≤ 9223372036854775807 := hr.2.1
  go_enter Tryd.func37, Tryd.ntmps37
  go_wp2
  go_loopg [5, 8] l.length (fun gg _ s8 wr => ∃ kk : Nat, kk ≤ l.length ∧ l.length - kk ≤ gg ∧ s8 = .int .i64 kk ∧ Aside0 (Below w.heap.size w wr) ∧ Aside0 (∀ j, j < kk → p (l.getD j z44) = false))
  case atStart => exact ⟨0, Nat.zero_le _, by omega, rfl, ⟨Below.refl _ w⟩, ⟨fun j hj => absurd hj (Nat.not_lt_zero _)⟩⟩
  case round =>
    obtain ⟨kk, hkk, hg, rfl, BW, A0⟩ := hrel
    by_cases hlt : kk < l.length
    · obtain ⟨ad, A1, c1, e, hx0, hx1, hl1, hi1⟩ := at_T44 (Kd.C_below hr BW.out) (kk : Int) (by omega) (by omega)
      subst e
      have hx2 : wr.cell? (ad.add (kk * 2)) = some (.int .i64 (rd_T44 l kk).f0) := by simpa using hx0
      have hx3 : wr.cell? ⟨(ad.add (kk * 2)).block, (ad.add (kk * 2)).off + 1, none⟩ = some (.slice A1 (rd_T44 l kk).f1.length c1) := by simpa using hx1
      have hcall := hp wr (rd_T44 l kk) A1 c1 BW.out hl1 hi1
      have hB := Aside0.mk (show l.getD kk z44 = rd_T44 l kk from rfl)
      have L := Aside0.mk hlt
      have hd : decide (kk < l.length) = true := decide_eq_true hlt
      clear hx0 hx1 hp hr hl1 hi1
      generalize rd_T44 l kk = y at hcall hB hx2 hx3
      cases hq : p y with
      | true =>
        rw [hq] at hcall
        have Q := Aside0.mk hq
        clear hq
        go_wp2_with fail
        refine hcall.mono ?_
        rintro e w' ⟨rfl, hb'⟩
        clear hcall hd eg hlt
        go_wp2
        go_ret
        refine ⟨?_, below_step BW.out hb'⟩
        rw [idxF_hit p l z44 kk L.out (by rw [hB.out]; exact Q.out) A0.out]; rfl
      | false =>
        rw [hq] at hcall
        have Q := Aside0.mk hq
        clear hq
        go_wp2_with fail
        refine hcall.mono ?_
        rintro e w' ⟨rfl, hb'⟩
        clear hcall hd eg
        go_wp2
        go_roundg (l.length - (kk + 1))
        case measure => have := L.out; omega
        case rel =>
          refine ⟨kk + 1, by have := L.out; omega, by omega, by go_num, ⟨below_step BW.out hb'⟩, ⟨fun j hj => ?_⟩⟩
          by_cases ej : j = kk
          · subst ej
            rw [hB.out]; exact Q.out
          · exact A0.out j (by omega)
    · have hd : decide (kk < l.length) = false := decide_eq_false hlt
      have L := Aside0.mk (show kk = l.length by omega)
      clear hp hr hlt
      go_wp2
      go_ret
      refine ⟨?_, BW.out⟩
      rw [idxF_miss p l z44 (by have := A0.out; rw [L.out] at this; exact this)]; rfl

set_option maxHeartbeats 2000000 in
theorem containsFunc_rule (g : Nat) (lb : Array Value) (eg : ∀ args w, (callFunc g args).run Tryd.prog w = .ok (.enter g args) w) (p : S44 → Bool) (A : Option Addr) (c : Nat) (l : List S44) (w : World)
    (hr : Kd.C k44 w A l.length l) (hc : l.length ≤ c) (hp : PredR g lb p w) :
    Calls Tryd.prog 25 #[.slice A l.length c, .func (.func g) #[] lb] w fun e w' => e = .returned (.bool (l.any p)) ∧ Below w.heap.size w w' := by
  have H := indexFunc_rule g lb eg p A c l w hr hc hp
  have hz := Aside0.mk (idxF_any p l)
  generalize idxF p l = i at H hz
  go_enter Tryd.func25, Tryd.ntmps25
  go_wp2_with (go_at_call 37; refine H.mono ?_; rintro e w' ⟨rfl, hb'⟩)
  go_ret
  exact ⟨by rw [← hz.out]; rfl, hb'⟩

theorem sliceEqual_loop (a b : List Int) (hl : a.length = b.length) (hb : a.length ≤ 9223372036854775807) (d : Nat) : ∀ (k i : Nat), i ≤ a.length → a.length - i = d → d < k →
    slices_Equal_int_int.l0 k a b a.length i = some (decide (a.drop i = b.drop i)) := by
  induction d with
  | zero =>
    intro k i h1 hd hk
    obtain ⟨k, rfl⟩ : ∃ m, k = m + 1 := ⟨k - 1, by omega⟩
    simp only [slices_Equal_int_int.l0]; rw [if_neg (by omega)]
    rw [List.drop_of_length_le (by omega), List.drop_of_length_le (by omega)]; simp
  | succ d ih =>
    intro k i h1 hd hk
    obtain ⟨k, rfl⟩ : ∃ m, k = m + 1 := ⟨k - 1, by omega⟩
    simp only [slices_Equal_int_int.l0]
    rw [if_pos (by omega), if_pos (by omega), if_pos (by omega), if_pos (by omega)]
    have hw : wrap64 ((i : Int) + 1) = ((i + 1 : Nat) : Int) := by unfold wrap64; omega
    have ea : a.drop i = rd a i :: a.drop (i + 1) := by
      rw [List.drop_eq_getElem_cons (show i < a.length by omega)]
      congr 1; unfold rd; rw [List.getD_eq_getElem?_getD, Int.toNat_natCast, List.getElem?_eq_getElem (by omega)]; rfl
    have eb : b.drop i = rd b i :: b.drop (i + 1) := by
      rw [List.drop_eq_getElem_cons (show i < b.length by omega)]
      congr 1; unfold rd; rw [List.getD_eq_getElem?_getD, Int.toNat_natCast, List.getElem?_eq_getElem (by omega)]; rfl
    by_cases he : rd a i = rd b i
    · rw [if_pos he, hw, ih k (i + 1) (by omega) (by omega) (by omega), ea, eb, he]
      congr 1; simp
    · rw [if_neg he, ea, eb]; simp [he]
theorem sliceEqual_eq (a b : List Int) (hb : a.length ≤ 9223372036854775807) : ∀ k, a.length < k → slices_Equal_int_int.f k a b = some (decide (a = b)) := by
  intro k hk
  unfold slices_Equal_int_int.f
  by_cases hl : a.length = b.length
  · rw [if_pos (by omega)]
    have := sliceEqual_loop a b hl hb a.length k 0 (by omega) (by omega) hk
    simpa using this
  · rw [if_neg (by omega)]
    have : a ≠ b := fun h => hl (by rw [h])
    simp [this]
/-- Are two rules the same? -/
def sameR (a b : S44) : Bool := decide (a.f0 = b.f0 ∧ a.f1 = b.f1)
theorem sameRule_eq (a b : S44) (hb : a.f1.length ≤ 9223372036854775807) : ∀ k, a.f1.length < k → impl_sameRule.f k a.f0 a.f1 b.f0 b.f1 = some (sameR a b) := by
  intro k hk
  unfold impl_sameRule.f sameR
  by_cases h : a.f0 = b.f0
  · rw [if_pos h, sliceEqual_eq _ _ hb k hk]; simp [h]
  · rw [if_neg h]; simp [h]
end Go.Proofs.YtpcbjhfgfmmneaaDoor.P

/-! Hc -/
/- The program's isGrammar: what it answers, and that it answers it. -/
namespace Go.Proofs.YtpcbjhfgfmmneaaDoor.P
open Go.RowKit Go.Proofs.YtpcbjhfgfmmneaaDoorW.PrintWords Go.Proofs.YtpcbjhfgfmmneaaDoorW.PrintLast Go.Proofs.YtpcbjhfgfmmneaaDoorW.PrintMore
set_option linter.unusedVariables false
set_option linter.unusedSimpArgs false

set_option maxHeartbeats 2000000 in
theorem pred_dup (r : S44) (B : Nat) (A : Option Addr) (c : Nat) (w : World) (hB : B < w.heap.size) (h0 : w.cell? ⟨B, 0, none⟩ = some (.int .i64 r.f0)) (h1 : w.cell? ⟨B, 1, none⟩ = some (.slice A r.f1.length c))
    (hc : r.f1.length ≤ c) (hr : Kd.C (Kd.int .i64) w A r.f1.length r.f1) : PredR 26 #[.pointer (some ⟨B, 0, none⟩)] (fun o => sameR o r) w := fun W x A1 c1 hb hc1 hr1 => by
  have g0 : W.cell? ⟨B, 0, none⟩ = some (.int .i64 r.f0) := (hb.cell (p := ⟨B, 0, none⟩) hB).trans h0
  have g1 : W.cell? ⟨B, 1, none⟩ = some (.slice A r.f1.length c) := (hb.cell (p := ⟨B, 1, none⟩) hB).trans h1
  have hmax : x.f1.length ≤ 9223372036854775807 := hr1.2.1
  have H := Aside0.mk fun (W1 : World) (hW : Below W.heap.size W W1) => impl_sameRule.calls (x.f1.length + 1) x.f0 A1 c1 x.f1 r.f0 A c r.f1 _ W1 (Kd.C_below hr1 hW) hc1 (Kd.C_below (Kd.C_below hr hb) hW) hc (sameRule_eq x r hmax (x.f1.length + 1) (by omega))
  clear h0 h1 hr hb hr1
  have hBW : B < W.heap.size := World.block_lt_of_cell? W _ g0
  show Calls Tryd.prog 26 #[.agg #[.int .i64 x.f0, .slice A1 x.f1.length c1], .pointer (some ⟨B, 0, none⟩)] W fun e w' => e = .returned (.bool (sameR x r)) ∧ Below W.heap.size W w'
  generalize sameR x r = b at H ⊢
  generalize x.f0 = y0 at H ⊢
  generalize x.f1.length = yl at H hmax hc1 ⊢
  generalize r.f0 = z0 at H g0 ⊢
  generalize r.f1.length = zl at H g1 hc ⊢
  go_enter Tryd.func26, Tryd.ntmps26
  go_wp2_with (go_at_call 27; refine (H.out _ (by repeat (first | exact Below.refl _ _ | apply below_alloc))).mono ?_; rintro e w' ⟨rfl, hb'⟩)
  go_ret
  exact ⟨rfl, below_step (by repeat (first | exact Below.refl _ _ | apply below_alloc)) hb'⟩

/-- One rule: its left side, its right side. -/
def okR (nons toks : Int) (r : S44) : Bool := decide (0 ≤ r.f0 ∧ r.f0 ≤ wrap64 (nons - 1)) && decide (r.f1.length ≤ 4) && !(r.f1.any fun x => !symB nons toks x)
/-- The first so many rules are good, and no two of them the same. -/
def rulesB (nons toks : Int) (l : List S44) : Nat → Bool
  | 0 => true
  | i + 1 => rulesB nons toks l i && (okR nons toks (rd_T44 l i) && !((l.take i).any fun o => sameR o (rd_T44 l i)))
/-- A good grammar. -/
def goodG (nons toks : Int) (l : List S44) : Bool := decide (1 ≤ nons ∧ nons ≤ 6) && (decide (1 ≤ toks ∧ toks ≤ 4) && (decide (l.length ≤ 16) && rulesB nons toks l l.length))
theorem rulesB_down (nons toks : Int) (l : List S44) (i : Nat) (h : rulesB nons toks l i = false) : ∀ d, rulesB nons toks l (i + d) = false := by
  intro d
  induction d with
  | zero => exact h
  | succ d ih => show (rulesB nons toks l (i + d) && _) = false; rw [ih]; rfl
theorem rulesB_no (nons toks : Int) (l : List S44) (i n : Nat) (hi : i < n) (h : okR nons toks (rd_T44 l i) = false ∨ ((l.take i).any fun o => sameR o (rd_T44 l i)) = true) : rulesB nons toks l n = false := by
  have h1 : rulesB nons toks l (i + 1) = false := by
    show (rulesB nons toks l i && (okR nons toks (rd_T44 l i) && !((l.take i).any fun o => sameR o (rd_T44 l i)))) = false
    rcases h with h | h <;> rw [h] <;> simp
  have := rulesB_down nons toks l (i + 1) h1 (n - (i + 1))
  rwa [show i + 1 + (n - (i + 1)) = n by omega] at this

def impl_isGrammar.f (a0_0 a0_1 : Int) (l0_2 : List S44) : Option Bool := some (goodG a0_0 a0_1 l0_2)
set_option maxHeartbeats 4000000 in
set_option maxRecDepth 100000 in
theorem impl_isGrammar.calls (a0_0 a0_1 : Int) (A0_2 : Option Addr) (c0_2 : Nat) (l0_2 : List S44) (r : Bool) (w : World) (hr0_2 : Kd.C k44 w A0_2 l0_2.length l0_2) (hc0_2 : l0_2.length ≤ c0_2) (h : impl_isGrammar.f a0_0 a0_1 l0_2 = some r) :
    Calls Tryd.prog 13 #[.agg #[.int .i64 a0_0, .int .i64 a0_1, .slice A0_2 l0_2.length c0_2]] w fun e w' => e = .returned (.bool r) ∧ Below w.heap.size w w' := by
  have hu := Tryd.underlying30
  obtain rfl := Option.some.inj h
  clear h
  by_cases h1 : 1 ≤ a0_0 ∧ a0_0 ≤ 6
  · have I1 := Aside0.mk (show impl_in.f a0_0 1 6 = some true by rw [impl_in_eq, decide_eq_true h1])
    by_cases h2 : 1 ≤ a0_1 ∧ a0_1 ≤ 4
    · have I2 := Aside0.mk (show impl_in.f a0_1 1 4 = some true by rw [impl_in_eq, decide_eq_true h2])
      by_cases h3 : l0_2.length ≤ 16
      · have d3 : decide ((16 : Int) < (l0_2.length : Int)) = false := decide_eq_false (by omega)
        have d4 : decide (16 < l0_2.length) = false := decide_eq_false (by omega)
        have H1 := Aside0.mk h1
        have H2 := Aside0.mk h2
        have HB := Aside0.mk (Below.refl w.heap.size w)
        clear h1 h2
        go_enter Tryd.func13, Tryd.ntmps13
        go_wp2_with (first | ((with_reducible refine gate_dst (N := 1) rfl ?_); refine box_event ?hg (N := 1) ?hd (cs := #[.int .i64 a0_0, .int .i64 a0_1, .slice A0_2 l0_2.length c0_2]) (t := 30) ?hr ?_; (case hd => rfl); (case hg => rfl); (case hr => first | (go_simp; done) | (go_simp; rfl)); intro gb hg w1 hbox hb; have n0_ := Aside0.mk (below_step HB.out hb); have n1_ := Aside0.mk hbox; clear HB; have HB := n0_; have BK := n1_; have GE := Aside0.mk (show w.heap.size ≤ gb by rw [hg]; omega); clear n0_ n1_ hb hbox hg; have hx0 : w1.cell? ⟨gb, 0, none⟩ = some (.int .i64 a0_0) := (blk_cell BK.out 0).trans rfl; have hx1 : w1.cell? ⟨gb, 1, none⟩ = some (.int .i64 a0_1) := (blk_cell BK.out 1).trans rfl; have hx2 : w1.cell? ⟨gb, 2, none⟩ = some (.slice A0_2 l0_2.length c0_2) := (blk_cell BK.out 2).trans rfl) | (go_at_call 23; (with_reducible refine (impl_in.calls a0_0 1 6 true _ I1.out).mono ?_); rintro e w' ⟨rfl, ⟨nd, rfl⟩⟩) | (go_at_call 23; (with_reducible refine (impl_in.calls a0_1 1 4 true _ I2.out).mono ?_); rintro e w' ⟨rfl, ⟨nd, rfl⟩⟩))
        go_loopg [24] l0_2.length (fun gg s24 wr => ∃ kk : Nat, kk ≤ l0_2.length ∧ l0_2.length - kk ≤ gg ∧ s24 = .int .i64 kk ∧ Aside0 (rulesB a0_0 a0_1 l0_2 kk = true) ∧ Aside0 (wr.heap[gb]? = some (.cells #[.int .i64 a0_0, .int .i64 a0_1, .slice A0_2 l0_2.length c0_2] 30 (0, 0))) ∧ Aside0 (Below w.heap.size w wr))
        case atStart => exact ⟨0, Nat.zero_le _, by omega, rfl, ⟨rfl⟩, ⟨by (with_reducible repeat (first | refine blk_drewN ?_ _ | refine blk_drew ?_ | refine blk_alloc ?_ _)); exact BK.out⟩, ⟨by repeat (first | (with_reducible first | exact HB.out | apply below_alloc | apply pw_below_drewN | apply below_drew1) | exact HB.out)⟩⟩
        case round =>
          clear hx0 hx1 hx2 BK HB d3 d4
          obtain ⟨kk, hkk, hg, rfl, R, BK, HB⟩ := hrel
          have hg0 : wr.cell? ⟨gb, 0, none⟩ = some (.int .i64 a0_0) := (blk_cell BK.out 0).trans rfl
          have hg1 : wr.cell? ⟨gb, 1, none⟩ = some (.int .i64 a0_1) := (blk_cell BK.out 1).trans rfl
          have hg2 : wr.cell? ⟨gb, 2, none⟩ = some (.slice A0_2 l0_2.length c0_2) := (blk_cell BK.out 2).trans rfl
          by_cases hlt : kk < l0_2.length
          · have hd : decide (kk < l0_2.length) = true := decide_eq_true hlt
            obtain ⟨ad, A1, c1, e, hx0, hx1, hl1, hi1⟩ := at_T44 hr0_2 (kk : Int) (by omega) (by omega)
            subst e
            replace hx0 := (HB.out.cell (World.block_lt_of_cell? w _ hx0)).trans hx0
            replace hx1 := (HB.out.cell (World.block_lt_of_cell? w _ hx1)).trans hx1
            have hx2 : wr.cell? (ad.add (kk * 2)) = some (.int .i64 (rd_T44 l0_2 kk).f0) := by simpa using hx0
            have hx3 : wr.cell? ⟨(ad.add (kk * 2)).block, (ad.add (kk * 2)).off + 1, none⟩ = some (.slice A1 (rd_T44 l0_2 kk).f1.length c1) := by simpa using hx1
            clear hx0 hx1
            have HI := Aside0.mk hi1
            have HL := Aside0.mk hl1
            have L := Aside0.mk hlt
            have HR := Aside0.mk hr0_2
            have HC := Aside0.mk hc0_2
            have NO := Aside0.mk fun h => rulesB_no a0_0 a0_1 l0_2 kk l0_2.length hlt h
            have OKD := Aside0.mk (show rulesB a0_0 a0_1 l0_2 (kk + 1) = (rulesB a0_0 a0_1 l0_2 kk && (okR a0_0 a0_1 (rd_T44 l0_2 kk) && !((l0_2.take kk).any fun o => sameR o (rd_T44 l0_2 kk)))) from rfl)
            clear hi1 hl1 hr0_2 hc0_2
            generalize rd_T44 l0_2 kk = y at hx2 hx3 HI HL NO OKD
            go_upto_region 6 with (first | ((with_reducible refine gate_dst (N := 4) rfl ?_); refine box_event ?hg (N := 4) ?hd (cs := #[.int .i64 0, .slice none 0 0]) (t := 44) ?hr ?_; (case hd => rfl); (case hg => rfl); (case hr => first | (go_simp; done) | (go_simp; rfl)); intro gc hgc w2 hbox hb; have n0_ := Aside0.mk (below_step HB.out hb); have n1_ := Aside0.mk hbox; have n2_ := Aside0.mk (blk_below BK.out hb); have GC := Aside0.mk (show w.heap.size ≤ gc by rw [hgc]; exact below_size HB.out); have NE := Aside0.mk (show gb ≠ gc by rw [hgc]; exact Nat.ne_of_lt (blk_lt BK.out)); clear HB BK; have HB := n0_; have BC := n1_; have BK := n2_; clear n0_ n1_ n2_ hb hbox hgc hg0 hg1 hg2; have hc0 : w2.cell? ⟨gc, 0, none⟩ = some (.int .i64 0) := (blk_cell BC.out 0).trans rfl; have hc1 : w2.cell? ⟨gc, 1, none⟩ = some (.slice none 0 0) := (blk_cell BC.out 1).trans rfl; have hf0 := blk_frozen BC.out 0; have hf1 := blk_frozen BC.out 1))
            obtain ⟨w3, hw3⟩ : ∃ w3 : World, w3 = (w2.setCell ⟨gc, 0, none⟩ (.int .i64 y.f0)).setCell ⟨gc, 1, none⟩ (.slice A1 y.f1.length c1) := ⟨_, rfl⟩
            rw [← hw3]
            have BC3 := Aside0.mk (show w3.heap[gc]? = some (.cells #[.int .i64 y.f0, .slice A1 y.f1.length c1] 44 (0, 0)) by rw [hw3]; exact blk_put (cs := #[.int .i64 y.f0, .slice none 0 0]) (blk_put (cs := #[.int .i64 0, .slice none 0 0]) BC.out 0 _ rfl) 1 _ rfl)
            have BK3 := Aside0.mk (show w3.heap[gb]? = some (.cells #[.int .i64 a0_0, .int .i64 a0_1, .slice (some ad) l0_2.length c0_2] 30 (0, 0)) by rw [hw3]; exact blk_far (blk_far BK.out NE.out _) NE.out _)
            have HB3 := Aside0.mk (show Below w.heap.size w w3 by rw [hw3]; exact below_set (below_set HB.out GC.out) GC.out)
            clear hw3 BC BK HB hc0 hc1 hf0 hf1 hx2 hx3
            have BC := BC3
            have BK := BK3
            have HB := HB3
            clear BC3 BK3 HB3
            have hx0 : w3.cell? ⟨gb, 0, none⟩ = some (.int .i64 a0_0) := (blk_cell BK.out 0).trans rfl
            have hx1 : w3.cell? ⟨gb, 1, none⟩ = some (.int .i64 a0_1) := (blk_cell BK.out 1).trans rfl
            have hx2 : w3.cell? ⟨gb, 2, none⟩ = some (.slice (some ad) l0_2.length c0_2) := (blk_cell BK.out 2).trans rfl
            have hy0 : w3.cell? ⟨gc, 0, none⟩ = some (.int .i64 y.f0) := (blk_cell BC.out 0).trans rfl
            have hy1 : w3.cell? ⟨gc, 1, none⟩ = some (.slice A1 y.f1.length c1) := (blk_cell BC.out 1).trans rfl
            have goodNo := Aside0.mk fun (h : rulesB a0_0 a0_1 l0_2 l0_2.length = false) => show goodG a0_0 a0_1 l0_2 = false by unfold goodG; rw [h]; simp
            by_cases q1 : 0 ≤ y.f0 ∧ y.f0 ≤ wrap64 (a0_0 - 1)
            · have J1 := Aside0.mk (show impl_in.f y.f0 0 (wrap64 (a0_0 - 1)) = some true by rw [impl_in_eq, decide_eq_true q1])
              by_cases q2 : y.f1.length ≤ 4
              · have e2 : decide ((4 : Int) < (y.f1.length : Int)) = false := decide_eq_false (by omega)
                have e3 : decide (4 < y.f1.length) = false := decide_eq_false (by omega)
                cases q3 : (y.f1.any fun x => !symB a0_0 a0_1 x) with
                | true =>
                  have J3 := Aside0.mk (show impl_areSymbols.f y.f1 a0_0 a0_1 = some false by unfold impl_areSymbols.f; rw [q3]; rfl)
                  have J4 := Aside0.mk (goodNo.out (NO.out (.inl (by unfold okR; rw [q3]; simp))))
                  clear q1 q2 q3 goodNo NO OKD
                  go_wp2_with (first | (go_at_call 23; (with_reducible refine (impl_in.calls y.f0 0 (wrap64 (a0_0 - 1)) true _ J1.out).mono ?_); rintro e w' ⟨rfl, ⟨nd, rfl⟩⟩) | (go_at_call 24; (with_reducible refine (impl_areSymbols.calls _ _ y.f1 a0_0 a0_1 false _ (Kd.C_below HI.out (by repeat (first | (with_reducible first | exact HB.out | apply below_alloc | apply pw_below_drewN | apply below_drew1) | exact HB.out))) HL.out J3.out).mono ?_); rintro e w' ⟨rfl, hb'⟩))
                  go_ret
                  exact ⟨by rw [J4.out]; rfl, below_step (by repeat (first | (with_reducible first | exact HB.out | apply below_alloc | apply pw_below_drewN | apply below_drew1) | exact HB.out)) hb'⟩
                | false =>
                  have J3 := Aside0.mk (show impl_areSymbols.f y.f1 a0_0 a0_1 = some true by unfold impl_areSymbols.f; rw [q3]; rfl)
                  have J5 := Aside0.mk (show okR a0_0 a0_1 y = true by unfold okR; rw [q3, decide_eq_true q1, decide_eq_true q2]; rfl)
                  have eg : ∀ args w, (callFunc 26 args).run Tryd.prog w = .ok (.enter 26 args) w := enters_of Tryd.func26 (by kernel_rfl) rfl
                  have CF := Aside0.mk fun (W : World) (hW : Below w.heap.size w W) (hbc : W.heap[gc]? = some (.cells #[.int .i64 y.f0, .slice A1 y.f1.length c1] 44 (0, 0))) =>
                    containsFunc_rule _ #[.pointer (some ⟨gc, 0, none⟩)] eg (fun o => sameR o y) (some ad) c0_2 (l0_2.take kk) W (Kd.C_below (Kd.C_take HR.out hkk) hW) (by rw [List.length_take]; have := HC.out; omega)
                      (pred_dup y gc A1 c1 W (blk_lt hbc) ((blk_cell hbc 0).trans rfl) ((blk_cell hbc 1).trans rfl) HL.out (Kd.C_below HI.out hW))
                  obtain ⟨i0, hi0, _, hsz0, _⟩ := info_parts info44
                  have hcut := cut_to (P := Tryd.prog) 28 44 .i64 Tryd.underlying28 hi0 (some ad) l0_2.length c0_2 (kk : Int) (by omega) (by omega) HC.out
                  rw [Int.toNat_natCast] at hcut
                  have hlen := Aside0.mk (show (l0_2.take kk).length = kk by rw [List.length_take]; omega)
                  clear q1 q2 q3 eg hi0 hsz0
                  go_upto_region 8 with (first | (go_at_call 23; (with_reducible refine (impl_in.calls y.f0 0 (wrap64 (a0_0 - 1)) true _ J1.out).mono ?_); rintro e w' ⟨rfl, ⟨nd, rfl⟩⟩) | (go_at_call 24; (with_reducible refine (impl_areSymbols.calls _ _ y.f1 a0_0 a0_1 true _ (Kd.C_below HI.out (by repeat (first | (with_reducible first | exact HB.out | apply below_alloc | apply pw_below_drewN | apply below_drew1) | exact HB.out))) HL.out J3.out).mono ?_); rintro e w4 ⟨rfl, hb'⟩; have n0_ := Aside0.mk (below_step (by repeat (first | (with_reducible first | exact HB.out | apply below_alloc | apply pw_below_drewN | apply below_drew1) | exact HB.out)) hb'); have n1_ := Aside0.mk (blk_below (by (with_reducible repeat (first | refine blk_drewN ?_ _ | refine blk_drew ?_ | refine blk_alloc ?_ _)); exact BC.out) hb'); have n2_ := Aside0.mk (blk_below (by (with_reducible repeat (first | refine blk_drewN ?_ _ | refine blk_drew ?_ | refine blk_alloc ?_ _)); exact BK.out) hb'); clear HB BC BK hb' hx0 hx1 hx2 hy0 hy1; have HB := n0_; have BC := n1_; have BK := n2_; clear n0_ n1_ n2_))
                  have hz2 : w4.cell? ⟨gb, 2, none⟩ = some (.slice (some ad) l0_2.length c0_2) := (blk_cell BK.out 2).trans rfl
                  have CC := CF.out w4 HB.out BC.out
                  rw [hlen.out] at CC
                  clear CF hlen
                  cases q4 : ((l0_2.take kk).any fun o => sameR o y) with
                  | true =>
                    have J4 := Aside0.mk (goodNo.out (NO.out (.inr q4)))
                    rw [q4] at CC
                    clear q4 goodNo NO OKD
                    go_wp2_with (go_at_call 25; refine CC.mono ?_; rintro e w5 ⟨rfl, hb'⟩; clear CC)
                    go_ret
                    exact ⟨by rw [J4.out]; rfl, below_step HB.out hb'⟩
                  | false =>
                    have J4 := Aside0.mk (show rulesB a0_0 a0_1 l0_2 (kk + 1) = true by rw [OKD.out, R.out, J5.out, q4]; rfl)
                    rw [q4] at CC
                    clear q4 goodNo NO OKD
                    go_wp2_with (go_at_call 25; refine CC.mono ?_; rintro e w5 ⟨rfl, hb'⟩; clear CC)
                    go_roundg (l0_2.length - (kk + 1))
                    case measure => have := L.out; omega
                    case rel => exact ⟨kk + 1, by have := L.out; omega, by omega, by go_num, J4, ⟨blk_below BK.out hb'⟩, ⟨below_step HB.out hb'⟩⟩
              · have e2 : decide ((4 : Int) < (y.f1.length : Int)) = true := decide_eq_true (by omega)
                have e3 : decide (4 < y.f1.length) = true := decide_eq_true (by omega)
                have J4 := Aside0.mk (goodNo.out (NO.out (.inl (by unfold okR; rw [decide_eq_false q2]; simp))))
                clear q1 q2 goodNo NO OKD
                go_wp2_with (go_at_call 23; (with_reducible refine (impl_in.calls y.f0 0 (wrap64 (a0_0 - 1)) true _ J1.out).mono ?_); rintro e w' ⟨rfl, ⟨nd, rfl⟩⟩)
                go_ret
                exact ⟨by rw [J4.out]; rfl, (by repeat (first | (with_reducible first | exact HB.out | apply below_alloc | apply pw_below_drewN | apply below_drew1) | exact HB.out))⟩
            · have J1 := Aside0.mk (show impl_in.f y.f0 0 (wrap64 (a0_0 - 1)) = some false by rw [impl_in_eq, decide_eq_false q1])
              have J4 := Aside0.mk (goodNo.out (NO.out (.inl (by unfold okR; rw [decide_eq_false q1]; simp))))
              clear q1 goodNo NO OKD
              go_wp2_with (go_at_call 23; (with_reducible refine (impl_in.calls y.f0 0 (wrap64 (a0_0 - 1)) false _ J1.out).mono ?_); rintro e w' ⟨rfl, ⟨nd, rfl⟩⟩)
              go_ret
              exact ⟨by rw [J4.out]; rfl, (by repeat (first | (with_reducible first | exact HB.out | apply below_alloc | apply pw_below_drewN | apply below_drew1) | exact HB.out))⟩
          · have hd : decide (kk < l0_2.length) = false := decide_eq_false hlt
            have J4 := Aside0.mk (show goodG a0_0 a0_1 l0_2 = true by
              have e : kk = l0_2.length := by omega
              have := R.out
              rw [e] at this
              unfold goodG
              rw [this, decide_eq_true H1.out, decide_eq_true H2.out, decide_eq_true h3]; rfl)
            clear hlt
            go_wp2
            go_ret
            exact ⟨by rw [J4.out]; rfl, (by repeat (first | (with_reducible first | exact HB.out | apply below_alloc | apply pw_below_drewN | apply below_drew1) | exact HB.out))⟩
      · have d3 : decide ((16 : Int) < (l0_2.length : Int)) = true := decide_eq_true (by omega)
        have d4 : decide (16 < l0_2.length) = true := decide_eq_true (by omega)
        have J4 := Aside0.mk (show goodG a0_0 a0_1 l0_2 = false by unfold goodG; rw [decide_eq_false h3]; simp)
        have HB := Aside0.mk (Below.refl w.heap.size w)
        clear h1 h2 h3
        go_enter Tryd.func13, Tryd.ntmps13
        go_wp2_with (first | ((with_reducible refine gate_dst (N := 1) rfl ?_); refine box_event ?hg (N := 1) ?hd (cs := #[.int .i64 a0_0, .int .i64 a0_1, .slice A0_2 l0_2.length c0_2]) (t := 30) ?hr ?_; (case hd => rfl); (case hg => rfl); (case hr => first | (go_simp; done) | (go_simp; rfl)); intro gb hg w1 hbox hb; have n0_ := Aside0.mk (below_step HB.out hb); have n1_ := Aside0.mk hbox; clear HB; have HB := n0_; have BK := n1_; clear n0_ n1_ hb hbox hg; have hx0 : w1.cell? ⟨gb, 0, none⟩ = some (.int .i64 a0_0) := (blk_cell BK.out 0).trans rfl; have hx1 : w1.cell? ⟨gb, 1, none⟩ = some (.int .i64 a0_1) := (blk_cell BK.out 1).trans rfl; have hx2 : w1.cell? ⟨gb, 2, none⟩ = some (.slice A0_2 l0_2.length c0_2) := (blk_cell BK.out 2).trans rfl) | (go_at_call 23; (with_reducible refine (impl_in.calls a0_0 1 6 true _ I1.out).mono ?_); rintro e w' ⟨rfl, ⟨nd, rfl⟩⟩) | (go_at_call 23; (with_reducible refine (impl_in.calls a0_1 1 4 true _ I2.out).mono ?_); rintro e w' ⟨rfl, ⟨nd, rfl⟩⟩))
        go_ret
        exact ⟨by rw [J4.out]; rfl, (by repeat (first | (with_reducible first | exact HB.out | apply below_alloc | apply pw_below_drewN | apply below_drew1) | exact HB.out))⟩
    · have I2 := Aside0.mk (show impl_in.f a0_1 1 4 = some false by rw [impl_in_eq, decide_eq_false h2])
      have J4 := Aside0.mk (show goodG a0_0 a0_1 l0_2 = false by unfold goodG; rw [decide_eq_false h2]; simp)
      have HB := Aside0.mk (Below.refl w.heap.size w)
      clear h1 h2
      go_enter Tryd.func13, Tryd.ntmps13
      go_wp2_with (first | ((with_reducible refine gate_dst (N := 1) rfl ?_); refine box_event ?hg (N := 1) ?hd (cs := #[.int .i64 a0_0, .int .i64 a0_1, .slice A0_2 l0_2.length c0_2]) (t := 30) ?hr ?_; (case hd => rfl); (case hg => rfl); (case hr => first | (go_simp; done) | (go_simp; rfl)); intro gb hg w1 hbox hb; have n0_ := Aside0.mk (below_step HB.out hb); have n1_ := Aside0.mk hbox; clear HB; have HB := n0_; have BK := n1_; clear n0_ n1_ hb hbox hg; have hx0 : w1.cell? ⟨gb, 0, none⟩ = some (.int .i64 a0_0) := (blk_cell BK.out 0).trans rfl; have hx1 : w1.cell? ⟨gb, 1, none⟩ = some (.int .i64 a0_1) := (blk_cell BK.out 1).trans rfl; have hx2 : w1.cell? ⟨gb, 2, none⟩ = some (.slice A0_2 l0_2.length c0_2) := (blk_cell BK.out 2).trans rfl) | (go_at_call 23; (with_reducible refine (impl_in.calls a0_0 1 6 true _ I1.out).mono ?_); rintro e w' ⟨rfl, ⟨nd, rfl⟩⟩) | (go_at_call 23; (with_reducible refine (impl_in.calls a0_1 1 4 false _ I2.out).mono ?_); rintro e w' ⟨rfl, ⟨nd, rfl⟩⟩))
      go_ret
      exact ⟨by rw [J4.out]; rfl, (by repeat (first | (with_reducible first | exact HB.out | apply below_alloc | apply pw_below_drewN | apply below_drew1) | exact HB.out))⟩
  · have I1 := Aside0.mk (show impl_in.f a0_0 1 6 = some false by rw [impl_in_eq, decide_eq_false h1])
    have J4 := Aside0.mk (show goodG a0_0 a0_1 l0_2 = false by unfold goodG; rw [decide_eq_false h1]; simp)
    have HB := Aside0.mk (Below.refl w.heap.size w)
    clear h1
    go_enter Tryd.func13, Tryd.ntmps13
    go_wp2_with (first | ((with_reducible refine gate_dst (N := 1) rfl ?_); refine box_event ?hg (N := 1) ?hd (cs := #[.int .i64 a0_0, .int .i64 a0_1, .slice A0_2 l0_2.length c0_2]) (t := 30) ?hr ?_; (case hd => rfl); (case hg => rfl); (case hr => first | (go_simp; done) | (go_simp; rfl)); intro gb hg w1 hbox hb; have n0_ := Aside0.mk (below_step HB.out hb); have n1_ := Aside0.mk hbox; clear HB; have HB := n0_; have BK := n1_; clear n0_ n1_ hb hbox hg; have hx0 : w1.cell? ⟨gb, 0, none⟩ = some (.int .i64 a0_0) := (blk_cell BK.out 0).trans rfl; have hx1 : w1.cell? ⟨gb, 1, none⟩ = some (.int .i64 a0_1) := (blk_cell BK.out 1).trans rfl; have hx2 : w1.cell? ⟨gb, 2, none⟩ = some (.slice A0_2 l0_2.length c0_2) := (blk_cell BK.out 2).trans rfl) | (go_at_call 23; (with_reducible refine (impl_in.calls a0_0 1 6 false _ I1.out).mono ?_); rintro e w' ⟨rfl, ⟨nd, rfl⟩⟩))
    go_ret
    exact ⟨by rw [J4.out]; rfl, (by repeat (first | (with_reducible first | exact HB.out | apply below_alloc | apply pw_below_drewN | apply below_drew1) | exact HB.out))⟩
end Go.Proofs.YtpcbjhfgfmmneaaDoor.P

/-! F17 -/
namespace Go.Proofs.YtpcbjhfgfmmneaaDoor.P
open Go.RowKit Go.Proofs.YtpcbjhfgfmmneaaDoorW.PrintWords Go.Proofs.YtpcbjhfgfmmneaaDoorW.PrintLast Go.Proofs.YtpcbjhfgfmmneaaDoorW.PrintMore
attribute [local go_sem] max2_int min2_int max_two min_two max_three min_three max_four min_four   -- for this text's walks alone
set_option linter.unusedVariables false
set_option linter.unusedSimpArgs false

/-! ### spec_l1In: function 17 -/
def spec_l1In.f (a0 : Int) (a1 : Int) (a2 : Int) : Option (Bool) := if a0 ≥ a1 then (some (decide (a0 ≤ a2))) else (some false)
set_option maxHeartbeats 8000000 in
set_option maxRecDepth 100000 in
theorem spec_l1In.calls (a0 : Int) (a1 : Int) (a2 : Int) (r : Bool) (w : World) (h : spec_l1In.f a0 a1 a2 = some r) :
    Calls Tryd.prog 17 #[.int .i64 a0, .int .i64 a1, .int .i64 a2] w fun e w' => e = .returned (.bool r) ∧ Drawn0 w w' := by
  have H : (if a0 ≥ a1 then (some (decide (a0 ≤ a2))) else (some false)) = some r := h
  clear h
  by_cases c4 : a0 ≥ a1
  · rw [if_pos c4] at H
    have c4b0 : decide (a1 ≤ a0) = true := decide_eq_true c4
    clear c4
    obtain rfl := Option.some.inj H
    go_enter Tryd.func17, Tryd.ntmps17
    go_wp2
    go_ret
    exact ⟨by first | rfl | (simp; done) | (simp [*]; done), by repeat (first | exact Drawn0.refl _ | apply Drawn0.step)⟩
  · rw [if_neg c4] at H
    have c4b0 : decide (a1 ≤ a0) = false := decide_eq_false c4
    clear c4
    obtain rfl := Option.some.inj H
    go_enter Tryd.func17, Tryd.ntmps17
    go_wp2
    go_ret
    exact ⟨by first | rfl | (simp; done) | (simp [*]; done), by repeat (first | exact Drawn0.refl _ | apply Drawn0.step)⟩

end Go.Proofs.YtpcbjhfgfmmneaaDoor.P

/-! F18 -/
namespace Go.Proofs.YtpcbjhfgfmmneaaDoor.P
open Go.RowKit Go.Proofs.YtpcbjhfgfmmneaaDoorW.PrintWords Go.Proofs.YtpcbjhfgfmmneaaDoorW.PrintLast Go.Proofs.YtpcbjhfgfmmneaaDoorW.PrintMore
attribute [local go_sem] max2_int min2_int max_two min_two max_three min_three max_four min_four   -- for this text's walks alone
set_option linter.unusedVariables false
set_option linter.unusedSimpArgs false

/-! ### spec_l1Symbol: function 18 -/
def spec_l1Symbol.f (a0_0 : Int) (a0_1 : Int) (l0_2 : List (S44)) (a1 : Int) : Option (Bool) := (spec_l1In.f a1 (wrap64 (-a0_1)) (wrap64 (a0_0 - 1))).bind fun t102 => (some t102)
set_option maxHeartbeats 8000000 in
set_option maxRecDepth 100000 in
theorem spec_l1Symbol.calls (a0_0 : Int) (a0_1 : Int) (A0_2 : Option Addr) (c0_2 : Nat) (l0_2 : List (S44)) (a1 : Int) (r : Bool) (w : World) (hr0_2 : Kd.C k44 w A0_2 l0_2.length l0_2) (hc0_2 : l0_2.length ≤ c0_2) (h : spec_l1Symbol.f a0_0 a0_1 l0_2 a1 = some r) :
    Calls Tryd.prog 18 #[.agg #[.int .i64 a0_0, .int .i64 a0_1, .slice A0_2 l0_2.length c0_2], .int .i64 a1] w fun e w' => e = .returned (.bool r) ∧ Below w.heap.size w w' := by
  have hu30 := Tryd.underlying30
  have HR0_2 := Aside0.mk hr0_2
  have HC0_2 := Aside0.mk hc0_2
  clear hr0_2 hc0_2
  have HB := Aside0.mk (Below.refl w.heap.size w)
  have H : ((spec_l1In.f a1 (wrap64 (-a0_1)) (wrap64 (a0_0 - 1))).bind fun t102 => (some t102)) = some r := h
  clear h
  replace H := Option.bind_eq_some_iff.mp H
  obtain ⟨t102, A30, H⟩ := H
  replace H : (some t102) = some r := H
  have A3 := Aside0.mk A30
  clear A30
  obtain rfl := Option.some.inj H
  go_enter Tryd.func18, Tryd.ntmps18
  go_wp2_with (first | ((with_reducible refine gate_dst (N := 2) rfl ?_); refine box_event ?hg (N := 2) ?hd (cs := #[.int .i64 a0_0, .int .i64 a0_1, .slice A0_2 l0_2.length c0_2]) (t := 30) ?hr ?_; (case hd => rfl); (case hg => rfl); (case hr => first | (go_simp; done) | (go_simp; rfl)); intro gb101 hg w4 hbox hb; have n0_ := Aside0.mk (below_step (by repeat (first | (with_reducible first | exact HB.out | apply below_alloc | apply pw_below_drewN | apply below_drew1) | exact HB.out)) hb); have n1_ := Aside0.mk (hbox); have n2_ := Aside0.mk ((by rw [hg]; exact (below_size (by repeat (first | (with_reducible first | exact HB.out | apply below_alloc | apply pw_below_drewN | apply below_drew1) | exact HB.out))) : w.heap.size ≤ gb101)); have n3_ := Aside0.mk ((by rw [hg]; exact (below_size (by repeat (first | (with_reducible first | exact HB.out | apply below_alloc | apply pw_below_drewN | apply below_drew1) | exact HB.out))) : w.heap.size ≤ gb101)); clear HB; have HB := n0_; have BK101 := n1_; have GW101 := n2_; have GE101 := n3_; clear n0_ n1_ n2_ n3_; clear hb hbox hg; have hcz5_0 : w4.cell? ⟨gb101, 0, none⟩ = some (.int .i64 a0_0) := (blk_cell BK101.out 0).trans rfl; have hcz5_1 : w4.cell? ⟨gb101, 1, none⟩ = some (.int .i64 a0_1) := (blk_cell BK101.out 1).trans rfl; have hcz5_2 : w4.cell? ⟨gb101, 2, none⟩ = some (.slice A0_2 l0_2.length c0_2) := (blk_cell BK101.out 2).trans rfl; have hfz5_0 := blk_frozen BK101.out 0; have hfz5_1 := blk_frozen BK101.out 1; have hfz5_2 := blk_frozen BK101.out 2) | ((with_reducible refine gate_callee (f := 17) rfl ?_); refine goesL_ (some 12) rfl rfl Tryd.func17 (by kernel_rfl) rfl #[.int .i64 a1, .int .i64 (wrap64 (-a0_1)), .int .i64 (wrap64 (a0_0 - 1))] rfl (by (try simp only [List.map_toArray, List.map_cons, List.map_nil]); first | done | rfl | (simp only [List.length_drop, List.length_take]; rfl)) ?_; (with_reducible refine (spec_l1In.calls a1 (wrap64 (-a0_1)) (wrap64 (a0_0 - 1)) t102 _ A3.out).mono ?_); rintro e w' ⟨rfl, ⟨nd, rfl⟩⟩; refine ⟨_, rfl, ?_⟩))
  go_ret
  exact ⟨by first | rfl | (simp [errW_none, errW_some] <;> rfl) | (simp [*, errW_none, errW_some] <;> rfl), by repeat (first | (with_reducible first | exact HB.out | apply below_alloc | apply pw_below_drewN | apply below_drew1 | refine below_set ?_ GE101.out) | exact HB.out)⟩

end Go.Proofs.YtpcbjhfgfmmneaaDoor.P

/-! F32 -/
namespace Go.Proofs.YtpcbjhfgfmmneaaDoor.P
open Go.RowKit Go.Proofs.YtpcbjhfgfmmneaaDoorW.PrintWords Go.Proofs.YtpcbjhfgfmmneaaDoorW.PrintLast Go.Proofs.YtpcbjhfgfmmneaaDoorW.PrintMore
attribute [local go_sem] max2_int min2_int max_two min_two max_three min_three max_four min_four   -- for this text's walks alone
set_option linter.unusedVariables false
set_option linter.unusedSimpArgs false

/-! ### spec_l1Same: function 32 -/
def spec_l1Same.l0 : Nat → List Int → List Int → Int → Int → Option (Bool)
  | 0, _, _, _, _ => none
  | k + 1, x0, x1, x12, x13 => if x13 < x12 then (if 0 ≤ x13 then (if x13 < (x0.length : Int) then (if x13 < (x1.length : Int) then (if (rd x0 x13) = (rd x1 x13) then (spec_l1Same.l0 k x0 x1 x12 (wrap64 (x13 + 1))) else (some false)) else (none)) else (none)) else (none)) else (some true)
def spec_l1Same.f (k : Nat) (l0 : List Int) (l1 : List Int) : Option (Bool) := if (l0.length : Int) = (l1.length : Int) then (spec_l1Same.l0 k l0 l1 (l0.length : Int) 0) else (some false)
theorem spec_l1Same.mono_l : ∀ k, (∀ y0 y1 y2 y3, LeO (spec_l1Same.l0 k y0 y1 y2 y3) (spec_l1Same.l0 (k + 1) y0 y1 y2 y3))
  | 0 => fun _ _ _ _ r h => by simp [spec_l1Same.l0] at h
  | k + 1 => by
    have ih0 := spec_l1Same.mono_l k
    · intro y0 y1 y2 y3
      unfold spec_l1Same.l0
      repeat' first
      | (with_reducible exact ih0 _ _ _ _)
      | (with_reducible exact LeO.refl _)
      | (with_reducible exact LeO.none _)
      | (with_reducible refine LeO.ite ?_ ?_)
      | (with_reducible refine LeO.bind ?_ (fun _ => ?_))
      | exact ih0 _ _ _ _
      | exact LeO.none _
      | refine LeO.ite ?_ ?_
      | refine LeO.bind ?_ (fun _ => ?_)
theorem spec_l1Same.mono : ∀ a0 a1 k, LeO (spec_l1Same.f k a0 a1) (spec_l1Same.f (k + 1) a0 a1) := by
  intro a0 a1 k
  have ih0 := spec_l1Same.mono_l k
  unfold spec_l1Same.f
  repeat' first
      | (with_reducible exact ih0 _ _ _ _)
      | (with_reducible exact LeO.refl _)
      | (with_reducible exact LeO.none _)
      | (with_reducible refine LeO.ite ?_ ?_)
      | (with_reducible refine LeO.bind ?_ (fun _ => ?_))
      | exact ih0 _ _ _ _
      | exact LeO.none _
      | refine LeO.ite ?_ ?_
      | refine LeO.bind ?_ (fun _ => ?_)
set_option maxHeartbeats 8000000 in
set_option maxRecDepth 100000 in
theorem spec_l1Same.calls (k : Nat) (A0 : Option Addr) (c0 : Nat) (l0 : List Int) (A1 : Option Addr) (c1 : Nat) (l1 : List Int) (r : Bool) (w : World) (hr0 : Kd.C (Kd.int .i64) w A0 l0.length l0) (hc0 : l0.length ≤ c0) (hr1 : Kd.C (Kd.int .i64) w A1 l1.length l1) (hc1 : l1.length ≤ c1) (h : spec_l1Same.f k l0 l1 = some r) :
    Calls Tryd.prog 32 #[.slice A0 l0.length c0, .slice A1 l1.length c1] w fun e w' => e = .returned (.bool r) ∧ Drawn0 w w' := by
  have HR0 := Aside0.mk hr0
  have HC0 := Aside0.mk hc0
  clear hr0 hc0
  have HR1 := Aside0.mk hr1
  have HC1 := Aside0.mk hc1
  clear hr1 hc1
  have H : (if (l0.length : Int) = (l1.length : Int) then (spec_l1Same.l0 k l0 l1 (l0.length : Int) 0) else (some false)) = some r := h
  clear h
  by_cases c3 : (l0.length : Int) = (l1.length : Int)
  · rw [if_pos c3] at H
    have c3b0 : ((l0.length : Int) == (l1.length : Int)) = true := beq_iff_eq.mpr c3
    have c3b1 : ((l0.length : Int) != (l1.length : Int)) = false := bne_eq_false_iff_eq.mpr c3
    have c3b2 : (l0.length == l1.length) = true := by first | simpa using c3 | (simp at c3 ⊢; omega)
    clear c3
    have H' := Aside0.mk H
    clear H
    go_enter Tryd.func32, Tryd.ntmps32
    go_wp2
    repeat (go_quiet (fail); try go_wp2)
    go_loopg [13] k (fun kq v13 w' => ∃ (x13_1 : Int), v13 = .int .i64 x13_1 ∧ Aside0 (spec_l1Same.l0 kq l0 l1 (l0.length : Int) x13_1 = some r) ∧ Aside0 (kq ≤ k) ∧ Drawn0 w w')
    case atStart => exact ⟨(0), (by first | rfl | (simp; done) | (simp [*]; done)), H', ⟨Nat.le_refl _⟩, by repeat (first | exact Drawn0.refl _ | apply Drawn0.step)⟩
    case round =>
      clear H'
      try clear c1
      try clear p2
      try clear c3
      try clear c3b0
      try clear c3b1
      try clear c3b2
      obtain ⟨x13_1, rfl, HA, HK1, ⟨m1, rfl⟩⟩ := hrel
      cases gk with
      | zero => exact absurd HA.out (by simp [spec_l1Same.l0])
      | succ k1 =>
        have H := HA.out
        clear HA
        simp only [spec_l1Same.l0] at H
        by_cases c4 : x13_1 < (l0.length : Int)
        · rw [if_pos c4] at H
          have c4b0 : decide (x13_1 < (l0.length : Int)) = true := decide_eq_true c4
          clear c4
          by_cases c5 : 0 ≤ x13_1
          · rw [if_pos c5] at H
            have c5b0 : decide (0 ≤ x13_1) = true := decide_eq_true c5
            clear c5
            by_cases c6 : x13_1 < (l0.length : Int)
            · rw [if_pos c6] at H
              have c6b0 : decide (x13_1 < (l0.length : Int)) = true := decide_eq_true c6
              clear c6
              by_cases c7 : x13_1 < (l1.length : Int)
              · rw [if_pos c7] at H
                have c7b0 : decide (x13_1 < (l1.length : Int)) = true := decide_eq_true c7
                clear c7
                by_cases c8 : (rd l0 x13_1) = (rd l1 x13_1)
                · rw [if_pos c8] at H
                  have c8b0 : ((rd l0 x13_1) == (rd l1 x13_1)) = true := beq_iff_eq.mpr c8
                  have c8b1 : ((rd l0 x13_1) != (rd l1 x13_1)) = false := bne_eq_false_iff_eq.mpr c8
                  clear c8
                  have H' := Aside0.mk H
                  clear H
                  have p101 : 0 ≤ (x13_1 : Int) := of_decide_eq_true (by first | (with_reducible assumption) | assumption)
                  have q101 : x13_1 < (l0.length : Int) := of_decide_eq_true (by first | (with_reducible assumption) | assumption)
                  obtain ⟨ad101, e101, hx101_0⟩ := Kd.at_int HR0.out x13_1 p101 q101
                  cases e101
                  replace p101 := eq_true p101
                  replace q101 := eq_true q101
                  have p102 : 0 ≤ (x13_1 : Int) := of_decide_eq_true (by first | (with_reducible assumption) | assumption)
                  have q102 : x13_1 < (l1.length : Int) := of_decide_eq_true (by first | (with_reducible assumption) | assumption)
                  obtain ⟨ad102, e102, hx102_0⟩ := Kd.at_int HR1.out x13_1 p102 q102
                  cases e102
                  replace p102 := eq_true p102
                  replace q102 := eq_true q102
                  go_wp2
                  repeat (go_quiet (fail); try go_wp2)
                  go_roundg k1
                  case measure => have := HK1.out; omega
                  case rel => exact ⟨(wrap64 (x13_1 + 1)), (by first | rfl | (simp; done) | (simp [*]; done)), H', ⟨by have := HK1.out; omega⟩, by repeat (first | exact Drawn0.refl _ | apply Drawn0.step)⟩
                · rw [if_neg c8] at H
                  have c8b0 : ((rd l0 x13_1) == (rd l1 x13_1)) = false := beq_eq_false_iff_ne.mpr c8
                  have c8b1 : ((rd l0 x13_1) != (rd l1 x13_1)) = true := bne_iff_ne.mpr c8
                  obtain rfl := Option.some.inj H
                  have p101 : 0 ≤ (x13_1 : Int) := of_decide_eq_true (by first | (with_reducible assumption) | assumption)
                  have q101 : x13_1 < (l0.length : Int) := of_decide_eq_true (by first | (with_reducible assumption) | assumption)
                  obtain ⟨ad101, e101, hx101_0⟩ := Kd.at_int HR0.out x13_1 p101 q101
                  cases e101
                  replace p101 := eq_true p101
                  replace q101 := eq_true q101
                  have p102 : 0 ≤ (x13_1 : Int) := of_decide_eq_true (by first | (with_reducible assumption) | assumption)
                  have q102 : x13_1 < (l1.length : Int) := of_decide_eq_true (by first | (with_reducible assumption) | assumption)
                  obtain ⟨ad102, e102, hx102_0⟩ := Kd.at_int HR1.out x13_1 p102 q102
                  cases e102
                  replace p102 := eq_true p102
                  replace q102 := eq_true q102
                  go_wp2
                  repeat (go_quiet (fail); try go_wp2)
                  go_ret
                  exact ⟨by first | rfl | (simp; done) | (simp [*]; done), by repeat (first | exact Drawn0.refl _ | apply Drawn0.step)⟩
              · rw [if_neg c7] at H
                exact absurd H (by simp)
            · rw [if_neg c6] at H
              exact absurd H (by simp)
          · rw [if_neg c5] at H
            exact absurd H (by simp)
        · rw [if_neg c4] at H
          have c4b0 : decide (x13_1 < (l0.length : Int)) = false := decide_eq_false c4
          clear c4
          obtain rfl := Option.some.inj H
          go_wp2
          repeat (go_quiet (fail); try go_wp2)
          go_ret
          exact ⟨by first | rfl | (simp; done) | (simp [*]; done), by repeat (first | exact Drawn0.refl _ | apply Drawn0.step)⟩
  · rw [if_neg c3] at H
    have c3b0 : ((l0.length : Int) == (l1.length : Int)) = false := beq_eq_false_iff_ne.mpr c3
    have c3b1 : ((l0.length : Int) != (l1.length : Int)) = true := bne_iff_ne.mpr c3
    have c3b2 : (l0.length == l1.length) = false := by first | simpa using c3 | (simp at c3 ⊢; omega)
    obtain rfl := Option.some.inj H
    go_enter Tryd.func32, Tryd.ntmps32
    go_wp2
    repeat (go_quiet (fail); try go_wp2)
    go_ret
    exact ⟨by first | rfl | (simp; done) | (simp [*]; done), by repeat (first | exact Drawn0.refl _ | apply Drawn0.step)⟩

end Go.Proofs.YtpcbjhfgfmmneaaDoor.P

/-! F19 -/
namespace Go.Proofs.YtpcbjhfgfmmneaaDoor.P
open Go.RowKit Go.Proofs.YtpcbjhfgfmmneaaDoorW.PrintWords Go.Proofs.YtpcbjhfgfmmneaaDoorW.PrintLast Go.Proofs.YtpcbjhfgfmmneaaDoorW.PrintMore
attribute [local go_sem] max2_int min2_int max_two min_two max_three min_three max_four min_four   -- for this text's walks alone
set_option linter.unusedVariables false
set_option linter.unusedSimpArgs false

/-! ### spec_l1SameRule: function 19 -/
def spec_l1SameRule.f (k : Nat) (a0_0 : Int) (l0_1 : List Int) (a1_0 : Int) (l1_1 : List Int) : Option (Bool) := if a0_0 = a1_0 then ((spec_l1Same.f k l0_1 l1_1).bind fun t103 => (some t103)) else (some false)
theorem spec_l1SameRule.mono : ∀ a0 a1 a2 a3 k, LeO (spec_l1SameRule.f k a0 a1 a2 a3) (spec_l1SameRule.f (k + 1) a0 a1 a2 a3) := by
  intro a0 a1 a2 a3 k
  unfold spec_l1SameRule.f
  repeat' first
      | (with_reducible exact spec_l1Same.mono _ _ _)
      | (with_reducible exact LeO.refl _)
      | (with_reducible exact LeO.none _)
      | (with_reducible refine LeO.ite ?_ ?_)
      | (with_reducible refine LeO.bind ?_ (fun _ => ?_))
      | exact spec_l1Same.mono _ _ _
      | exact LeO.none _
      | refine LeO.ite ?_ ?_
      | refine LeO.bind ?_ (fun _ => ?_)
set_option maxHeartbeats 8000000 in
set_option maxRecDepth 100000 in
theorem spec_l1SameRule.calls (k : Nat) (a0_0 : Int) (A0_1 : Option Addr) (c0_1 : Nat) (l0_1 : List Int) (a1_0 : Int) (A1_1 : Option Addr) (c1_1 : Nat) (l1_1 : List Int) (r : Bool) (w : World) (hr0_1 : Kd.C (Kd.int .i64) w A0_1 l0_1.length l0_1) (hc0_1 : l0_1.length ≤ c0_1) (hr1_1 : Kd.C (Kd.int .i64) w A1_1 l1_1.length l1_1) (hc1_1 : l1_1.length ≤ c1_1) (h : spec_l1SameRule.f k a0_0 l0_1 a1_0 l1_1 = some r) :
    Calls Tryd.prog 19 #[.agg #[.int .i64 a0_0, .slice A0_1 l0_1.length c0_1], .agg #[.int .i64 a1_0, .slice A1_1 l1_1.length c1_1]] w fun e w' => e = .returned (.bool r) ∧ Below w.heap.size w w' := by
  have hu44 := Tryd.underlying44
  have HR0_1 := Aside0.mk hr0_1
  have HC0_1 := Aside0.mk hc0_1
  clear hr0_1 hc0_1
  have HR1_1 := Aside0.mk hr1_1
  have HC1_1 := Aside0.mk hc1_1
  clear hr1_1 hc1_1
  have HB := Aside0.mk (Below.refl w.heap.size w)
  have H : (if a0_0 = a1_0 then ((spec_l1Same.f k l0_1 l1_1).bind fun t103 => (some t103)) else (some false)) = some r := h
  clear h
  by_cases c3 : a0_0 = a1_0
  · rw [if_pos c3] at H
    have c3b0 : (a0_0 == a1_0) = true := beq_iff_eq.mpr c3
    have c3b1 : (a0_0 != a1_0) = false := bne_eq_false_iff_eq.mpr c3
    clear c3
    replace H := Option.bind_eq_some_iff.mp H
    obtain ⟨t103, A40, H⟩ := H
    replace H : (some t103) = some r := H
    have A4 := Aside0.mk A40
    clear A40
    obtain rfl := Option.some.inj H
    go_enter Tryd.func19, Tryd.ntmps19
    go_wp2_with (first | ((with_reducible refine gate_dst (N := 2) rfl ?_); refine box_event ?hg (N := 2) ?hd (cs := #[.int .i64 a0_0, .slice A0_1 l0_1.length c0_1]) (t := 44) ?hr ?_; (case hd => rfl); (case hg => rfl); (case hr => first | (go_simp; done) | (go_simp; rfl)); intro gb101 hg w5 hbox hb; have n0_ := Aside0.mk (below_step (by repeat (first | (with_reducible first | exact HB.out | apply below_alloc | apply pw_below_drewN | apply below_drew1) | exact HB.out)) hb); have n1_ := Aside0.mk (hbox); have n2_ := Aside0.mk ((by rw [hg]; exact (below_size (by repeat (first | (with_reducible first | exact HB.out | apply below_alloc | apply pw_below_drewN | apply below_drew1) | exact HB.out))) : w.heap.size ≤ gb101)); have n3_ := Aside0.mk ((by rw [hg]; exact (below_size (by repeat (first | (with_reducible first | exact HB.out | apply below_alloc | apply pw_below_drewN | apply below_drew1) | exact HB.out))) : w.heap.size ≤ gb101)); clear HB; have HB := n0_; have BK101 := n1_; have GW101 := n2_; have GE101 := n3_; clear n0_ n1_ n2_ n3_; clear hb hbox hg) | ((with_reducible refine gate_dst (N := 3) rfl ?_); refine box_event ?hg (N := 3) ?hd (cs := #[.int .i64 a1_0, .slice A1_1 l1_1.length c1_1]) (t := 44) ?hr ?_; (case hd => rfl); (case hg => rfl); (case hr => first | (go_simp; done) | (go_simp; rfl)); intro gb102 hg w6 hbox hb; have n0_ := Aside0.mk (blk_below (g := gb101) (o := .cells #[.int .i64 a0_0, .slice A0_1 l0_1.length c0_1] 44 (0, 0)) (by (with_reducible repeat (first | refine blk_drewN ?_ _ | refine blk_drew ?_ | refine blk_alloc ?_ _)); exact BK101.out) hb); have n1_ := Aside0.mk (below_step (by repeat (first | (with_reducible first | exact HB.out | apply below_alloc | apply pw_below_drewN | apply below_drew1 | refine below_set ?_ GE101.out) | exact HB.out)) hb); have n2_ := Aside0.mk (hbox); have n3_ := Aside0.mk ((by rw [hg]; exact (below_size (by repeat (first | (with_reducible first | exact HB.out | apply below_alloc | apply pw_below_drewN | apply below_drew1 | refine below_set ?_ GE101.out) | exact HB.out))) : w.heap.size ≤ gb102)); have n4_ := Aside0.mk ((by rw [hg]; exact (below_size (by repeat (first | (with_reducible first | exact HB.out | apply below_alloc | apply pw_below_drewN | apply below_drew1 | refine below_set ?_ GE101.out) | exact HB.out))) : w.heap.size ≤ gb102)); have n5_ := Aside0.mk ((by rw [hg]; exact Nat.ne_of_lt (blk_lt (g := gb101) (o := .cells #[.int .i64 a0_0, .slice A0_1 l0_1.length c0_1] 44 (0, 0)) (by (with_reducible repeat (first | refine blk_drewN ?_ _ | refine blk_drew ?_ | refine blk_alloc ?_ _)); exact BK101.out)) : gb101 ≠ gb102)); have n6_ := Aside0.mk ((by rw [hg]; exact Nat.ne_of_gt (blk_lt (g := gb101) (o := .cells #[.int .i64 a0_0, .slice A0_1 l0_1.length c0_1] 44 (0, 0)) (by (with_reducible repeat (first | refine blk_drewN ?_ _ | refine blk_drew ?_ | refine blk_alloc ?_ _)); exact BK101.out)) : gb102 ≠ gb101)); clear BK101; clear HB; have BK101 := n0_; have HB := n1_; have BK102 := n2_; have GW102 := n3_; have GE102 := n4_; have NB101_102 := n5_; have NB102_101 := n6_; clear n0_ n1_ n2_ n3_ n4_ n5_ n6_; clear hb hbox hg; have hnb7 := NB101_102.out; have hnc7 := NB102_101.out; have hcz8_0 : w6.cell? ⟨gb101, 0, none⟩ = some (.int .i64 a0_0) := (blk_cell BK101.out 0).trans rfl; have hcz8_1 : w6.cell? ⟨gb101, 1, none⟩ = some (.slice A0_1 l0_1.length c0_1) := (blk_cell BK101.out 1).trans rfl; have hfz8_0 := blk_frozen BK101.out 0; have hfz8_1 := blk_frozen BK101.out 1; have hcz9_0 : w6.cell? ⟨gb102, 0, none⟩ = some (.int .i64 a1_0) := (blk_cell BK102.out 0).trans rfl; have hcz9_1 : w6.cell? ⟨gb102, 1, none⟩ = some (.slice A1_1 l1_1.length c1_1) := (blk_cell BK102.out 1).trans rfl; have hfz9_0 := blk_frozen BK102.out 0; have hfz9_1 := blk_frozen BK102.out 1) | (go_at_call 32; (with_reducible refine (spec_l1Same.calls k _ _ l0_1 _ _ l1_1 t103 _ ?side1 ?side2 ?side3 ?side4 A4.out).mono ?_); (case side1 => repeat (first | exact (Kd.C_below HR0_1.out HB.out) | (with_reducible refine Kd.C_alloc ?_ _) | (with_reducible refine Kd.C_drewN ?_ _) | (with_reducible refine Kd.C_drew ?_))); (case side2 => exact HC0_1.out); (case side3 => repeat (first | exact (Kd.C_below HR1_1.out HB.out) | (with_reducible refine Kd.C_alloc ?_ _) | (with_reducible refine Kd.C_drewN ?_ _) | (with_reducible refine Kd.C_drew ?_))); (case side4 => exact HC1_1.out); rintro e w' ⟨rfl, ⟨nd, rfl⟩⟩))
    go_ret
    exact ⟨by first | rfl | (simp [errW_none, errW_some] <;> rfl) | (simp [*, errW_none, errW_some] <;> rfl), by repeat (first | (with_reducible first | exact HB.out | apply below_alloc | apply pw_below_drewN | apply below_drew1 | refine below_set ?_ GE101.out | refine below_set ?_ GE102.out) | exact HB.out)⟩
  · rw [if_neg c3] at H
    have c3b0 : (a0_0 == a1_0) = false := beq_eq_false_iff_ne.mpr c3
    have c3b1 : (a0_0 != a1_0) = true := bne_iff_ne.mpr c3
    obtain rfl := Option.some.inj H
    go_enter Tryd.func19, Tryd.ntmps19
    go_wp2_with (first | ((with_reducible refine gate_dst (N := 2) rfl ?_); refine box_event ?hg (N := 2) ?hd (cs := #[.int .i64 a0_0, .slice A0_1 l0_1.length c0_1]) (t := 44) ?hr ?_; (case hd => rfl); (case hg => rfl); (case hr => first | (go_simp; done) | (go_simp; rfl)); intro gb101 hg w10 hbox hb; have n0_ := Aside0.mk (below_step (by repeat (first | (with_reducible first | exact HB.out | apply below_alloc | apply pw_below_drewN | apply below_drew1) | exact HB.out)) hb); have n1_ := Aside0.mk (hbox); have n2_ := Aside0.mk ((by rw [hg]; exact (below_size (by repeat (first | (with_reducible first | exact HB.out | apply below_alloc | apply pw_below_drewN | apply below_drew1) | exact HB.out))) : w.heap.size ≤ gb101)); have n3_ := Aside0.mk ((by rw [hg]; exact (below_size (by repeat (first | (with_reducible first | exact HB.out | apply below_alloc | apply pw_below_drewN | apply below_drew1) | exact HB.out))) : w.heap.size ≤ gb101)); clear HB; have HB := n0_; have BK101 := n1_; have GW101 := n2_; have GE101 := n3_; clear n0_ n1_ n2_ n3_; clear hb hbox hg) | ((with_reducible refine gate_dst (N := 3) rfl ?_); refine box_event ?hg (N := 3) ?hd (cs := #[.int .i64 a1_0, .slice A1_1 l1_1.length c1_1]) (t := 44) ?hr ?_; (case hd => rfl); (case hg => rfl); (case hr => first | (go_simp; done) | (go_simp; rfl)); intro gb102 hg w11 hbox hb; have n0_ := Aside0.mk (blk_below (g := gb101) (o := .cells #[.int .i64 a0_0, .slice A0_1 l0_1.length c0_1] 44 (0, 0)) (by (with_reducible repeat (first | refine blk_drewN ?_ _ | refine blk_drew ?_ | refine blk_alloc ?_ _)); exact BK101.out) hb); have n1_ := Aside0.mk (below_step (by repeat (first | (with_reducible first | exact HB.out | apply below_alloc | apply pw_below_drewN | apply below_drew1 | refine below_set ?_ GE101.out) | exact HB.out)) hb); have n2_ := Aside0.mk (hbox); have n3_ := Aside0.mk ((by rw [hg]; exact (below_size (by repeat (first | (with_reducible first | exact HB.out | apply below_alloc | apply pw_below_drewN | apply below_drew1 | refine below_set ?_ GE101.out) | exact HB.out))) : w.heap.size ≤ gb102)); have n4_ := Aside0.mk ((by rw [hg]; exact (below_size (by repeat (first | (with_reducible first | exact HB.out | apply below_alloc | apply pw_below_drewN | apply below_drew1 | refine below_set ?_ GE101.out) | exact HB.out))) : w.heap.size ≤ gb102)); have n5_ := Aside0.mk ((by rw [hg]; exact Nat.ne_of_lt (blk_lt (g := gb101) (o := .cells #[.int .i64 a0_0, .slice A0_1 l0_1.length c0_1] 44 (0, 0)) (by (with_reducible repeat (first | refine blk_drewN ?_ _ | refine blk_drew ?_ | refine blk_alloc ?_ _)); exact BK101.out)) : gb101 ≠ gb102)); have n6_ := Aside0.mk ((by rw [hg]; exact Nat.ne_of_gt (blk_lt (g := gb101) (o := .cells #[.int .i64 a0_0, .slice A0_1 l0_1.length c0_1] 44 (0, 0)) (by (with_reducible repeat (first | refine blk_drewN ?_ _ | refine blk_drew ?_ | refine blk_alloc ?_ _)); exact BK101.out)) : gb102 ≠ gb101)); clear BK101; clear HB; have BK101 := n0_; have HB := n1_; have BK102 := n2_; have GW102 := n3_; have GE102 := n4_; have NB101_102 := n5_; have NB102_101 := n6_; clear n0_ n1_ n2_ n3_ n4_ n5_ n6_; clear hb hbox hg; have hnb12 := NB101_102.out; have hnc12 := NB102_101.out; have hcz13_0 : w11.cell? ⟨gb101, 0, none⟩ = some (.int .i64 a0_0) := (blk_cell BK101.out 0).trans rfl; have hcz13_1 : w11.cell? ⟨gb101, 1, none⟩ = some (.slice A0_1 l0_1.length c0_1) := (blk_cell BK101.out 1).trans rfl; have hfz13_0 := blk_frozen BK101.out 0; have hfz13_1 := blk_frozen BK101.out 1; have hcz14_0 : w11.cell? ⟨gb102, 0, none⟩ = some (.int .i64 a1_0) := (blk_cell BK102.out 0).trans rfl; have hcz14_1 : w11.cell? ⟨gb102, 1, none⟩ = some (.slice A1_1 l1_1.length c1_1) := (blk_cell BK102.out 1).trans rfl; have hfz14_0 := blk_frozen BK102.out 0; have hfz14_1 := blk_frozen BK102.out 1))
    go_ret
    exact ⟨by first | rfl | (simp [errW_none, errW_some] <;> rfl) | (simp [*, errW_none, errW_some] <;> rfl), by repeat (first | (with_reducible first | exact HB.out | apply below_alloc | apply pw_below_drewN | apply below_drew1 | refine below_set ?_ GE101.out | refine below_set ?_ GE102.out) | exact HB.out)⟩

end Go.Proofs.YtpcbjhfgfmmneaaDoor.P

/-! F10 -/
namespace Go.Proofs.YtpcbjhfgfmmneaaDoor.P
open Go.RowKit Go.Proofs.YtpcbjhfgfmmneaaDoorW.PrintWords Go.Proofs.YtpcbjhfgfmmneaaDoorW.PrintLast Go.Proofs.YtpcbjhfgfmmneaaDoorW.PrintMore
attribute [local go_sem] max2_int min2_int max_two min_two max_three min_three max_four min_four   -- for this text's walks alone
set_option linter.unusedVariables false
set_option linter.unusedSimpArgs false

/-! ### spec_GoodGrammar: function 10 -/
mutual
def spec_GoodGrammar.j0 : Nat → Bool → Int → Int → List (S44) → Option (Bool)
  | 0, _, _, _, _ => none
  | k + 1, x24, x102000, x102001, x102002 => if x24 = true then (some false) else (spec_GoodGrammar.l0 k x102002 (x102002.length : Int) 0 x102000 x102001 x102002)
def spec_GoodGrammar.l0 : Nat → List (S44) → Int → Int → Int → Int → List (S44) → Option (Bool)
  | 0, _, _, _, _, _, _ => none
  | k + 1, x26, x27, x28, x102000, x102001, x102002 => if x28 < x27 then (if 0 ≤ x28 then (if x28 < (x26.length : Int) then ((spec_l1In.f ((rd_T44 x26 x28).f0) 0 (wrap64 (x102000 - 1))).bind fun t106 => (if t106 = true then (spec_GoodGrammar.j2 k x28 x26 x27 x28 (decide ((((rd_T44 x26 x28).f1).length : Int) > 4)) x102000 x102001 x102002 ((rd_T44 x26 x28).f0) ((rd_T44 x26 x28).f1)) else (spec_GoodGrammar.j2 k x28 x26 x27 x28 true x102000 x102001 x102002 ((rd_T44 x26 x28).f0) ((rd_T44 x26 x28).f1)))) else (none)) else (none)) else (some true)
def spec_GoodGrammar.j2 : Nat → Int → List (S44) → Int → Int → Bool → Int → Int → List (S44) → Int → List Int → Option (Bool)
  | 0, _, _, _, _, _, _, _, _, _, _ => none
  | k + 1, x3, x26, x27, x28, x45, x102000, x102001, x102002, x106000, x106001 => if x45 = true then (some false) else (spec_GoodGrammar.l1 k x3 x26 x27 x28 x106001 (x106001.length : Int) 0 x102000 x102001 x102002 x106000 x106001)
def spec_GoodGrammar.l1 : Nat → Int → List (S44) → Int → Int → List Int → Int → Int → Int → Int → List (S44) → Int → List Int → Option (Bool)
  | 0, _, _, _, _, _, _, _, _, _, _, _, _ => none
  | k + 1, x3, x26, x27, x28, x47, x48, x49, x102000, x102001, x102002, x106000, x106001 => if x49 < x48 then (if 0 ≤ x49 then (if x49 < (x47.length : Int) then ((spec_l1Symbol.f x102000 x102001 x102002 (rd x47 x49)).bind fun t108 => (if t108 = true then (spec_GoodGrammar.l1 k x3 x26 x27 x28 x47 x48 (wrap64 (x49 + 1)) x102000 x102001 x102002 x106000 x106001) else (some false))) else (none)) else (none)) else (if 0 ≤ x3 then (if x3 ≤ (x102002.length : Int) then ((some (x102002.take (x3 : Int).toNat : List (S44))).bind fun y109 => (spec_GoodGrammar.l2 k x26 x27 x28 y109 (y109.length : Int) 0 x102000 x102001 x102002 x106000 x106001)) else (none)) else (none))
def spec_GoodGrammar.l2 : Nat → List (S44) → Int → Int → List (S44) → Int → Int → Int → Int → List (S44) → Int → List Int → Option (Bool)
  | 0, _, _, _, _, _, _, _, _, _, _, _ => none
  | k + 1, x26, x27, x28, x61, x62, x63, x102000, x102001, x102002, x106000, x106001 => if x63 < x62 then (if 0 ≤ x63 then (if x63 < (x61.length : Int) then ((spec_l1SameRule.f k x106000 x106001 ((rd_T44 x61 x63).f0) ((rd_T44 x61 x63).f1)).bind fun t115 => (if t115 = true then (some false) else (spec_GoodGrammar.l2 k x26 x27 x28 x61 x62 (wrap64 (x63 + 1)) x102000 x102001 x102002 x106000 x106001))) else (none)) else (none)) else (spec_GoodGrammar.l0 k x26 x27 (wrap64 (x28 + 1)) x102000 x102001 x102002)
end
def spec_GoodGrammar.f (k : Nat) (a0_0 : Int) (a0_1 : Int) (l0_2 : List (S44)) : Option (Bool) := (spec_l1In.f a0_0 1 6).bind fun t102 => (if t102 = true then ((spec_l1In.f a0_1 1 4).bind fun t103 => (if t103 = true then (spec_GoodGrammar.j0 k (decide ((l0_2.length : Int) > 16)) a0_0 a0_1 l0_2) else (spec_GoodGrammar.j0 k true a0_0 a0_1 l0_2))) else (spec_GoodGrammar.j0 k true a0_0 a0_1 l0_2))
theorem spec_GoodGrammar.mono_l : ∀ k, (∀ y0 y1 y2 y3, LeO (spec_GoodGrammar.j0 k y0 y1 y2 y3) (spec_GoodGrammar.j0 (k + 1) y0 y1 y2 y3)) ∧ (∀ y0 y1 y2 y3 y4 y5, LeO (spec_GoodGrammar.l0 k y0 y1 y2 y3 y4 y5) (spec_GoodGrammar.l0 (k + 1) y0 y1 y2 y3 y4 y5)) ∧ (∀ y0 y1 y2 y3 y4 y5 y6 y7 y8 y9, LeO (spec_GoodGrammar.j2 k y0 y1 y2 y3 y4 y5 y6 y7 y8 y9) (spec_GoodGrammar.j2 (k + 1) y0 y1 y2 y3 y4 y5 y6 y7 y8 y9)) ∧ (∀ y0 y1 y2 y3 y4 y5 y6 y7 y8 y9 y10 y11, LeO (spec_GoodGrammar.l1 k y0 y1 y2 y3 y4 y5 y6 y7 y8 y9 y10 y11) (spec_GoodGrammar.l1 (k + 1) y0 y1 y2 y3 y4 y5 y6 y7 y8 y9 y10 y11)) ∧ (∀ y0 y1 y2 y3 y4 y5 y6 y7 y8 y9 y10, LeO (spec_GoodGrammar.l2 k y0 y1 y2 y3 y4 y5 y6 y7 y8 y9 y10) (spec_GoodGrammar.l2 (k + 1) y0 y1 y2 y3 y4 y5 y6 y7 y8 y9 y10))
  | 0 => ⟨fun _ _ _ _ r h => by simp [spec_GoodGrammar.j0] at h, fun _ _ _ _ _ _ r h => by simp [spec_GoodGrammar.l0] at h, fun _ _ _ _ _ _ _ _ _ _ r h => by simp [spec_GoodGrammar.j2] at h, fun _ _ _ _ _ _ _ _ _ _ _ _ r h => by simp [spec_GoodGrammar.l1] at h, fun _ _ _ _ _ _ _ _ _ _ _ r h => by simp [spec_GoodGrammar.l2] at h⟩
  | k + 1 => by
    obtain ⟨ih0, ih1, ih2, ih3, ih4⟩ := spec_GoodGrammar.mono_l k
    refine ⟨?_, ?_, ?_, ?_, ?_⟩
    · intro y0 y1 y2 y3
      unfold spec_GoodGrammar.j0
      repeat' first
      | (with_reducible exact ih0 _ _ _ _)
      | (with_reducible exact ih1 _ _ _ _ _ _)
      | (with_reducible exact ih2 _ _ _ _ _ _ _ _ _ _)
      | (with_reducible exact ih3 _ _ _ _ _ _ _ _ _ _ _ _)
      | (with_reducible exact ih4 _ _ _ _ _ _ _ _ _ _ _)
      | (with_reducible exact spec_l1SameRule.mono _ _ _ _ _)
      | (with_reducible exact LeO.refl _)
      | (with_reducible exact LeO.none _)
      | (with_reducible refine LeO.ite ?_ ?_)
      | (with_reducible refine LeO.bind ?_ (fun _ => ?_))
      | exact ih0 _ _ _ _
      | exact ih1 _ _ _ _ _ _
      | exact ih2 _ _ _ _ _ _ _ _ _ _
      | exact ih3 _ _ _ _ _ _ _ _ _ _ _ _
      | exact ih4 _ _ _ _ _ _ _ _ _ _ _
      | exact spec_l1SameRule.mono _ _ _ _ _
      | exact LeO.none _
      | refine LeO.ite ?_ ?_
      | refine LeO.bind ?_ (fun _ => ?_)
    · intro y0 y1 y2 y3 y4 y5
      unfold spec_GoodGrammar.l0
      repeat' first
      | (with_reducible exact ih0 _ _ _ _)
      | (with_reducible exact ih1 _ _ _ _ _ _)
      | (with_reducible exact ih2 _ _ _ _ _ _ _ _ _ _)
      | (with_reducible exact ih3 _ _ _ _ _ _ _ _ _ _ _ _)
      | (with_reducible exact ih4 _ _ _ _ _ _ _ _ _ _ _)
      | (with_reducible exact spec_l1SameRule.mono _ _ _ _ _)
      | (with_reducible exact LeO.refl _)
      | (with_reducible exact LeO.none _)
      | (with_reducible refine LeO.ite ?_ ?_)
      | (with_reducible refine LeO.bind ?_ (fun _ => ?_))
      | exact ih0 _ _ _ _
      | exact ih1 _ _ _ _ _ _
      | exact ih2 _ _ _ _ _ _ _ _ _ _
      | exact ih3 _ _ _ _ _ _ _ _ _ _ _ _
      | exact ih4 _ _ _ _ _ _ _ _ _ _ _
      | exact spec_l1SameRule.mono _ _ _ _ _
      | exact LeO.none _
      | refine LeO.ite ?_ ?_
      | refine LeO.bind ?_ (fun _ => ?_)
    · intro y0 y1 y2 y3 y4 y5 y6 y7 y8 y9
      unfold spec_GoodGrammar.j2
      repeat' first
      | (with_reducible exact ih0 _ _ _ _)
      | (with_reducible exact ih1 _ _ _ _ _ _)
      | (with_reducible exact ih2 _ _ _ _ _ _ _ _ _ _)
      | (with_reducible exact ih3 _ _ _ _ _ _ _ _ _ _ _ _)
      | (with_reducible exact ih4 _ _ _ _ _ _ _ _ _ _ _)
      | (with_reducible exact spec_l1SameRule.mono _ _ _ _ _)
      | (with_reducible exact LeO.refl _)
      | (with_reducible exact LeO.none _)
      | (with_reducible refine LeO.ite ?_ ?_)
      | (with_reducible refine LeO.bind ?_ (fun _ => ?_))
      | exact ih0 _ _ _ _
      | exact ih1 _ _ _ _ _ _
      | exact ih2 _ _ _ _ _ _ _ _ _ _
      | exact ih3 _ _ _ _ _ _ _ _ _ _ _ _
      | exact ih4 _ _ _ _ _ _ _ _ _ _ _
      | exact spec_l1SameRule.mono _ _ _ _ _
      | exact LeO.none _
      | refine LeO.ite ?_ ?_
      | refine LeO.bind ?_ (fun _ => ?_)
    · intro y0 y1 y2 y3 y4 y5 y6 y7 y8 y9 y10 y11
      unfold spec_GoodGrammar.l1
      repeat' first
      | (with_reducible exact ih0 _ _ _ _)
      | (with_reducible exact ih1 _ _ _ _ _ _)
      | (with_reducible exact ih2 _ _ _ _ _ _ _ _ _ _)
      | (with_reducible exact ih3 _ _ _ _ _ _ _ _ _ _ _ _)
      | (with_reducible exact ih4 _ _ _ _ _ _ _ _ _ _ _)
      | (with_reducible exact spec_l1SameRule.mono _ _ _ _ _)
      | (with_reducible exact LeO.refl _)
      | (with_reducible exact LeO.none _)
      | (with_reducible refine LeO.ite ?_ ?_)
      | (with_reducible refine LeO.bind ?_ (fun _ => ?_))
      | exact ih0 _ _ _ _
      | exact ih1 _ _ _ _ _ _
      | exact ih2 _ _ _ _ _ _ _ _ _ _
      | exact ih3 _ _ _ _ _ _ _ _ _ _ _ _
      | exact ih4 _ _ _ _ _ _ _ _ _ _ _
      | exact spec_l1SameRule.mono _ _ _ _ _
      | exact LeO.none _
      | refine LeO.ite ?_ ?_
      | refine LeO.bind ?_ (fun _ => ?_)
    · intro y0 y1 y2 y3 y4 y5 y6 y7 y8 y9 y10
      unfold spec_GoodGrammar.l2
      repeat' first
      | (with_reducible exact ih0 _ _ _ _)
      | (with_reducible exact ih1 _ _ _ _ _ _)
      | (with_reducible exact ih2 _ _ _ _ _ _ _ _ _ _)
      | (with_reducible exact ih3 _ _ _ _ _ _ _ _ _ _ _ _)
      | (with_reducible exact ih4 _ _ _ _ _ _ _ _ _ _ _)
      | (with_reducible exact spec_l1SameRule.mono _ _ _ _ _)
      | (with_reducible exact LeO.refl _)
      | (with_reducible exact LeO.none _)
      | (with_reducible refine LeO.ite ?_ ?_)
      | (with_reducible refine LeO.bind ?_ (fun _ => ?_))
      | exact ih0 _ _ _ _
      | exact ih1 _ _ _ _ _ _
      | exact ih2 _ _ _ _ _ _ _ _ _ _
      | exact ih3 _ _ _ _ _ _ _ _ _ _ _ _
      | exact ih4 _ _ _ _ _ _ _ _ _ _ _
      | exact spec_l1SameRule.mono _ _ _ _ _
      | exact LeO.none _
      | refine LeO.ite ?_ ?_
      | refine LeO.bind ?_ (fun _ => ?_)
theorem spec_GoodGrammar.mono : ∀ a0 a1 a2 k, LeO (spec_GoodGrammar.f k a0 a1 a2) (spec_GoodGrammar.f (k + 1) a0 a1 a2) := by
  intro a0 a1 a2 k
  obtain ⟨ih0, ih1, ih2, ih3, ih4⟩ := spec_GoodGrammar.mono_l k
  unfold spec_GoodGrammar.f
  repeat' first
      | (with_reducible exact ih0 _ _ _ _)
      | (with_reducible exact ih1 _ _ _ _ _ _)
      | (with_reducible exact ih2 _ _ _ _ _ _ _ _ _ _)
      | (with_reducible exact ih3 _ _ _ _ _ _ _ _ _ _ _ _)
      | (with_reducible exact ih4 _ _ _ _ _ _ _ _ _ _ _)
      | (with_reducible exact spec_l1SameRule.mono _ _ _ _ _)
      | (with_reducible exact LeO.refl _)
      | (with_reducible exact LeO.none _)
      | (with_reducible refine LeO.ite ?_ ?_)
      | (with_reducible refine LeO.bind ?_ (fun _ => ?_))
      | exact ih0 _ _ _ _
      | exact ih1 _ _ _ _ _ _
      | exact ih2 _ _ _ _ _ _ _ _ _ _
      | exact ih3 _ _ _ _ _ _ _ _ _ _ _ _
      | exact ih4 _ _ _ _ _ _ _ _ _ _ _
      | exact spec_l1SameRule.mono _ _ _ _ _
      | exact LeO.none _
      | refine LeO.ite ?_ ?_
      | refine LeO.bind ?_ (fun _ => ?_)
set_option maxHeartbeats 8000000 in
set_option maxRecDepth 100000 in
theorem spec_GoodGrammar.calls (k : Nat) (a0_0 : Int) (a0_1 : Int) (A0_2 : Option Addr) (c0_2 : Nat) (l0_2 : List (S44)) (r : Bool) (w : World) (hr0_2 : Kd.C k44 w A0_2 l0_2.length l0_2) (hc0_2 : l0_2.length ≤ c0_2) (h : spec_GoodGrammar.f k a0_0 a0_1 l0_2 = some r) :
    Calls Tryd.prog 10 #[.agg #[.int .i64 a0_0, .int .i64 a0_1, .slice A0_2 l0_2.length c0_2]] w fun e w' => e = .returned (.bool r) ∧ Below w.heap.size w w' := by
  have hu30 := Tryd.underlying30
  have hu44 := Tryd.underlying44
  have HR0_2 := Aside0.mk hr0_2
  have HC0_2 := Aside0.mk hc0_2
  clear hr0_2 hc0_2
  have HB := Aside0.mk (Below.refl w.heap.size w)
  have H : ((spec_l1In.f a0_0 1 6).bind fun t102 => (if t102 = true then ((spec_l1In.f a0_1 1 4).bind fun t103 => (if t103 = true then (spec_GoodGrammar.j0 k (decide ((l0_2.length : Int) > 16)) a0_0 a0_1 l0_2) else (spec_GoodGrammar.j0 k true a0_0 a0_1 l0_2))) else (spec_GoodGrammar.j0 k true a0_0 a0_1 l0_2))) = some r := h
  clear h
  have HC2 := Aside0.mk H
  clear H
  go_enter Tryd.func10, Tryd.ntmps10
  go_upto_region 1 with (first | ((with_reducible refine gate_dst (N := 1) rfl ?_); (try (refine gate_guard (by rfl) ?_; dsimp only)); refine box_event ?hg (N := 1) ?hd (cs := #[.int .i64 a0_0, .int .i64 a0_1, .slice A0_2 l0_2.length c0_2]) (t := 30) ?hr ?_; (case hd => rfl); (case hg => rfl); (case hr => first | (go_simp; done) | (go_simp; rfl)); intro gb101 hg w3 hbox hb; have n0_ := Aside0.mk (below_step (by repeat (first | (with_reducible first | exact HB.out | apply below_alloc | apply pw_below_drewN | apply below_drew1) | exact HB.out)) hb); have n1_ := Aside0.mk (hbox); have n2_ := Aside0.mk ((by rw [hg]; exact (below_size (by repeat (first | (with_reducible first | exact HB.out | apply below_alloc | apply pw_below_drewN | apply below_drew1) | exact HB.out))) : w.heap.size ≤ gb101)); have n3_ := Aside0.mk ((by rw [hg]; exact (below_size (by repeat (first | (with_reducible first | exact HB.out | apply below_alloc | apply pw_below_drewN | apply below_drew1) | exact HB.out))) : w.heap.size ≤ gb101)); clear HB; have HB := n0_; have BK101 := n1_; have GW101 := n2_; have GE101 := n3_; clear n0_ n1_ n2_ n3_; clear hb hbox hg))
  (try simp only [Act.put, List.setIfInBounds_toArray, List.set_cons_zero, List.set_cons_succ])
  go_cut [24] (fun v24 wc => ∃ (kq : Nat) (x24_1 : Bool), v24 = .bool x24_1 ∧ Aside0 (spec_GoodGrammar.j0 kq x24_1 a0_0 a0_1 l0_2 = some r) ∧ Aside0 (kq ≤ k) ∧ Aside0 (wc.heap[gb101]? = some (.cells #[.int .i64 a0_0, .int .i64 a0_1, (.slice A0_2 l0_2.length c0_2)] 30 (0, 0))) ∧ Aside0 (Below w.heap.size w wc))
  case first =>
    have H := HC2.out
    clear HC2
    replace H := Option.bind_eq_some_iff.mp H
    obtain ⟨t102, A40, H⟩ := H
    replace H : (if t102 = true then ((spec_l1In.f a0_1 1 4).bind fun t103 => (if t103 = true then (spec_GoodGrammar.j0 k (decide ((l0_2.length : Int) > 16)) a0_0 a0_1 l0_2) else (spec_GoodGrammar.j0 k true a0_0 a0_1 l0_2))) else (spec_GoodGrammar.j0 k true a0_0 a0_1 l0_2)) = some r := H
    have A4 := Aside0.mk A40
    clear A40
    by_cases c5 : t102 = true
    · subst c5
      have H1 : ((spec_l1In.f a0_1 1 4).bind fun t103 => (if t103 = true then (spec_GoodGrammar.j0 k (decide ((l0_2.length : Int) > 16)) a0_0 a0_1 l0_2) else (spec_GoodGrammar.j0 k true a0_0 a0_1 l0_2))) = some r := by rw [if_pos rfl] at H; exact H
      clear H
      have H := H1
      clear H1
      replace H := Option.bind_eq_some_iff.mp H
      obtain ⟨t103, A60, H⟩ := H
      replace H : (if t103 = true then (spec_GoodGrammar.j0 k (decide ((l0_2.length : Int) > 16)) a0_0 a0_1 l0_2) else (spec_GoodGrammar.j0 k true a0_0 a0_1 l0_2)) = some r := H
      have A6 := Aside0.mk A60
      clear A60
      by_cases c7 : t103 = true
      · subst c7
        have H1 : (spec_GoodGrammar.j0 k (decide ((l0_2.length : Int) > 16)) a0_0 a0_1 l0_2) = some r := by rw [if_pos rfl] at H; exact H
        clear H
        have H := H1
        clear H1
        have H' := Aside0.mk H
        clear H
        have hcz8_0 : w3.cell? ⟨gb101, 0, none⟩ = some (.int .i64 a0_0) := (blk_cell BK101.out 0).trans rfl
        have hcz8_1 : w3.cell? ⟨gb101, 1, none⟩ = some (.int .i64 a0_1) := (blk_cell BK101.out 1).trans rfl
        have hcz8_2 : w3.cell? ⟨gb101, 2, none⟩ = some (.slice A0_2 l0_2.length c0_2) := (blk_cell BK101.out 2).trans rfl
        have hfz8_0 := blk_frozen BK101.out 0
        have hfz8_1 := blk_frozen BK101.out 1
        have hfz8_2 := blk_frozen BK101.out 2
        go_wp2_with (first | ((with_reducible refine gate_callee (f := 17) rfl ?_); refine goesL_ (some 11) rfl rfl Tryd.func17 (by kernel_rfl) rfl #[.int .i64 a0_0, .int .i64 1, .int .i64 6] rfl (by (try simp only [List.map_toArray, List.map_cons, List.map_nil]); first | done | rfl | (simp only [List.length_drop, List.length_take]; rfl)) ?_; (with_reducible refine (spec_l1In.calls a0_0 1 6 true _ A4.out).mono ?_); rintro e w' ⟨rfl, ⟨nd, rfl⟩⟩; refine ⟨_, rfl, ?_⟩) | (go_at_call 17; (with_reducible refine (spec_l1In.calls a0_1 1 4 true _ A6.out).mono ?_); rintro e w' ⟨rfl, ⟨nd, rfl⟩⟩))
        go_meet
        case rel => exact ⟨_, (decide ((l0_2.length : Int) > 16)), (by first | rfl | (simp; done) | (simp [*]; done)), H', ⟨by first | omega | exact Nat.le_refl _⟩, ⟨by (with_reducible repeat (first | refine blk_drewN ?_ _ | refine blk_drew ?_ | refine blk_alloc ?_ _)); exact BK101.out⟩, ⟨by repeat (first | (with_reducible first | exact HB.out | apply below_alloc | apply pw_below_drewN | apply below_drew1 | refine below_set ?_ GE101.out) | exact HB.out)⟩⟩
      · replace c7 := Bool.eq_false_iff.mpr c7
        subst c7
        have H1 : (spec_GoodGrammar.j0 k true a0_0 a0_1 l0_2) = some r := by rw [if_neg (show ¬ (false = true) by decide)] at H; exact H
        clear H
        have H := H1
        clear H1
        have H' := Aside0.mk H
        clear H
        have hcz9_0 : w3.cell? ⟨gb101, 0, none⟩ = some (.int .i64 a0_0) := (blk_cell BK101.out 0).trans rfl
        have hcz9_1 : w3.cell? ⟨gb101, 1, none⟩ = some (.int .i64 a0_1) := (blk_cell BK101.out 1).trans rfl
        have hcz9_2 : w3.cell? ⟨gb101, 2, none⟩ = some (.slice A0_2 l0_2.length c0_2) := (blk_cell BK101.out 2).trans rfl
        have hfz9_0 := blk_frozen BK101.out 0
        have hfz9_1 := blk_frozen BK101.out 1
        have hfz9_2 := blk_frozen BK101.out 2
        go_wp2_with (first | ((with_reducible refine gate_callee (f := 17) rfl ?_); refine goesL_ (some 11) rfl rfl Tryd.func17 (by kernel_rfl) rfl #[.int .i64 a0_0, .int .i64 1, .int .i64 6] rfl (by (try simp only [List.map_toArray, List.map_cons, List.map_nil]); first | done | rfl | (simp only [List.length_drop, List.length_take]; rfl)) ?_; (with_reducible refine (spec_l1In.calls a0_0 1 6 true _ A4.out).mono ?_); rintro e w' ⟨rfl, ⟨nd, rfl⟩⟩; refine ⟨_, rfl, ?_⟩) | (go_at_call 17; (with_reducible refine (spec_l1In.calls a0_1 1 4 false _ A6.out).mono ?_); rintro e w' ⟨rfl, ⟨nd, rfl⟩⟩))
        go_meet
        case rel => exact ⟨_, (true), (by first | rfl | (simp; done) | (simp [*]; done)), H', ⟨by first | omega | exact Nat.le_refl _⟩, ⟨by (with_reducible repeat (first | refine blk_drewN ?_ _ | refine blk_drew ?_ | refine blk_alloc ?_ _)); exact BK101.out⟩, ⟨by repeat (first | (with_reducible first | exact HB.out | apply below_alloc | apply pw_below_drewN | apply below_drew1 | refine below_set ?_ GE101.out) | exact HB.out)⟩⟩
    · replace c5 := Bool.eq_false_iff.mpr c5
      subst c5
      have H1 : (spec_GoodGrammar.j0 k true a0_0 a0_1 l0_2) = some r := by rw [if_neg (show ¬ (false = true) by decide)] at H; exact H
      clear H
      have H := H1
      clear H1
      have H' := Aside0.mk H
      clear H
      have hcz10_0 : w3.cell? ⟨gb101, 0, none⟩ = some (.int .i64 a0_0) := (blk_cell BK101.out 0).trans rfl
      have hcz10_1 : w3.cell? ⟨gb101, 1, none⟩ = some (.int .i64 a0_1) := (blk_cell BK101.out 1).trans rfl
      have hcz10_2 : w3.cell? ⟨gb101, 2, none⟩ = some (.slice A0_2 l0_2.length c0_2) := (blk_cell BK101.out 2).trans rfl
      have hfz10_0 := blk_frozen BK101.out 0
      have hfz10_1 := blk_frozen BK101.out 1
      have hfz10_2 := blk_frozen BK101.out 2
      go_wp2_with (first | ((with_reducible refine gate_callee (f := 17) rfl ?_); refine goesL_ (some 11) rfl rfl Tryd.func17 (by kernel_rfl) rfl #[.int .i64 a0_0, .int .i64 1, .int .i64 6] rfl (by (try simp only [List.map_toArray, List.map_cons, List.map_nil]); first | done | rfl | (simp only [List.length_drop, List.length_take]; rfl)) ?_; (with_reducible refine (spec_l1In.calls a0_0 1 6 false _ A4.out).mono ?_); rintro e w' ⟨rfl, ⟨nd, rfl⟩⟩; refine ⟨_, rfl, ?_⟩))
      go_meet
      case rel => exact ⟨_, (true), (by first | rfl | (simp; done) | (simp [*]; done)), H', ⟨by first | omega | exact Nat.le_refl _⟩, ⟨by (with_reducible repeat (first | refine blk_drewN ?_ _ | refine blk_drew ?_ | refine blk_alloc ?_ _)); exact BK101.out⟩, ⟨by repeat (first | (with_reducible first | exact HB.out | apply below_alloc | apply pw_below_drewN | apply below_drew1 | refine below_set ?_ GE101.out) | exact HB.out)⟩⟩
  case rest =>
    clear HC2
    try clear c1
    try clear p2
    try clear c5
    try clear c7
    try clear c10
    try clear hcz10_0
    try clear hcz10_1
    try clear hcz10_2
    try clear hcz8_0
    try clear hcz8_1
    try clear hcz8_2
    try clear hcz9_0
    try clear hcz9_1
    try clear hcz9_2
    try clear hfz10_0
    try clear hfz10_1
    try clear hfz10_2
    try clear hfz8_0
    try clear hfz8_1
    try clear hfz8_2
    try clear hfz9_0
    try clear hfz9_1
    try clear hfz9_2
    obtain ⟨kq, x24_1, rfl, HA, HJ1, BK101, HB⟩ := hcut
    cases kq with
    | zero => exact absurd HA.out (by simp [spec_GoodGrammar.j0])
    | succ kj1 =>
      have H := HA.out
      clear HA
      simp only [spec_GoodGrammar.j0] at H
      by_cases c11 : x24_1 = true
      · subst c11
        have H1 : (some false) = some r := by rw [if_pos rfl] at H; exact H
        clear H
        have H := H1
        clear H1
        obtain rfl := Option.some.inj H
        go_wp2
        go_ret
        exact ⟨by first | rfl | (simp [errW_none, errW_some] <;> rfl) | (simp [*, errW_none, errW_some] <;> rfl), by repeat (first | (with_reducible first | exact HB.out | apply below_alloc | apply pw_below_drewN | apply below_drew1 | refine below_set ?_ GE101.out) | exact HB.out)⟩
      · replace c11 := Bool.eq_false_iff.mpr c11
        subst c11
        have H1 : (spec_GoodGrammar.l0 kj1 l0_2 (l0_2.length : Int) 0 a0_0 a0_1 l0_2) = some r := by rw [if_neg (show ¬ (false = true) by decide)] at H; exact H
        clear H
        have H := H1
        clear H1
        have H' := Aside0.mk H
        clear H
        have hcz12_0 : wc.cell? ⟨gb101, 0, none⟩ = some (.int .i64 a0_0) := (blk_cell BK101.out 0).trans rfl
        have hcz12_1 : wc.cell? ⟨gb101, 1, none⟩ = some (.int .i64 a0_1) := (blk_cell BK101.out 1).trans rfl
        have hcz12_2 : wc.cell? ⟨gb101, 2, none⟩ = some (.slice A0_2 l0_2.length c0_2) := (blk_cell BK101.out 2).trans rfl
        have hfz12_0 := blk_frozen BK101.out 0
        have hfz12_1 := blk_frozen BK101.out 1
        have hfz12_2 := blk_frozen BK101.out 2
        go_wp2
        go_loopg [28] kj1 (fun kq v28 w' => ∃ (x28_2 : Int), v28 = .int .i64 x28_2 ∧ Aside0 (spec_GoodGrammar.l0 kq l0_2 (l0_2.length : Int) x28_2 a0_0 a0_1 l0_2 = some r) ∧ Aside0 (kq ≤ kj1) ∧ Aside0 (w'.heap[gb101]? = some (.cells #[.int .i64 a0_0, .int .i64 a0_1, (.slice A0_2 l0_2.length c0_2)] 30 (0, 0))) ∧ Aside0 (Below w.heap.size w w'))
        case atStart => exact ⟨(0), (by first | rfl | (simp; done) | (simp [*]; done)), H', ⟨Nat.le_refl _⟩, ⟨by (with_reducible repeat (first | refine blk_drewN ?_ _ | refine blk_drew ?_ | refine blk_alloc ?_ _)); exact BK101.out⟩, ⟨by repeat (first | (with_reducible first | exact HB.out | apply below_alloc | apply pw_below_drewN | apply below_drew1 | refine below_set ?_ GE101.out) | exact HB.out)⟩⟩
        case round =>
          clear H'
          try clear c1
          try clear p2
          try clear c5
          try clear c7
          try clear c10
          try clear c11
          try clear hcz10_0
          try clear hcz10_1
          try clear hcz10_2
          try clear hcz12_0
          try clear hcz12_1
          try clear hcz12_2
          try clear hcz8_0
          try clear hcz8_1
          try clear hcz8_2
          try clear hcz9_0
          try clear hcz9_1
          try clear hcz9_2
          try clear hfz10_0
          try clear hfz10_1
          try clear hfz10_2
          try clear hfz12_0
          try clear hfz12_1
          try clear hfz12_2
          try clear hfz8_0
          try clear hfz8_1
          try clear hfz8_2
          try clear hfz9_0
          try clear hfz9_1
          try clear hfz9_2
          try clear p2
          obtain ⟨x28_2, rfl, HA, HK2, BK101, HB⟩ := hrel
          cases gk with
          | zero => exact absurd HA.out (by simp [spec_GoodGrammar.l0])
          | succ k2 =>
            have H := HA.out
            clear HA
            simp only [spec_GoodGrammar.l0] at H
            by_cases c13 : x28_2 < (l0_2.length : Int)
            · rw [if_pos c13] at H
              have c13b0 : decide (x28_2 < (l0_2.length : Int)) = true := decide_eq_true c13
              clear c13
              by_cases c14 : 0 ≤ x28_2
              · rw [if_pos c14] at H
                have c14b0 : decide (0 ≤ x28_2) = true := decide_eq_true c14
                clear c14
                by_cases c15 : x28_2 < (l0_2.length : Int)
                · rw [if_pos c15] at H
                  have c15b0 : decide (x28_2 < (l0_2.length : Int)) = true := decide_eq_true c15
                  clear c15
                  have HC16 := Aside0.mk H
                  clear H
                  have p104 : 0 ≤ (x28_2 : Int) := of_decide_eq_true (by first | (with_reducible assumption) | assumption)
                  have q104 : x28_2 < (l0_2.length : Int) := of_decide_eq_true (by first | (with_reducible assumption) | assumption)
                  obtain ⟨ad104, A104_1, c104_1, e104, hx104_0, hx104_1, hl104_1, hi104_1⟩ := at_T44 HR0_2.out x28_2 p104 q104
                  cases e104
                  replace hx104_0 := (HB.out.cell (World.block_lt_of_cell? w _ hx104_0)).trans hx104_0
                  replace hx104_1 := (HB.out.cell (World.block_lt_of_cell? w _ hx104_1)).trans hx104_1
                  have HR104_1 := Aside0.mk hi104_1
                  have HC104_1 := Aside0.mk hl104_1
                  clear hi104_1 hl104_1
                  replace p104 := eq_true p104
                  replace q104 := eq_true q104
                  go_upto_region 6 with (first | ((with_reducible refine gate_dst (N := 4) rfl ?_); (try (refine gate_guard (by rfl) ?_; dsimp only)); refine box_event ?hg (N := 4) ?hd (cs := #[.int .i64 0, .slice none 0 0]) (t := 44) ?hr ?_; (case hd => rfl); (case hg => rfl); (case hr => first | (go_simp; done) | (go_simp; rfl)); intro gb105 hg w17 hbox hb; have n0_ := Aside0.mk (blk_below (g := gb101) (o := .cells #[.int .i64 a0_0, .int .i64 a0_1, .slice (some ad104) l0_2.length c0_2] 30 (0, 0)) (by (with_reducible repeat (first | refine blk_drewN ?_ _ | refine blk_drew ?_ | refine blk_alloc ?_ _)); exact BK101.out) hb); have n1_ := Aside0.mk (below_step (by repeat (first | (with_reducible first | exact HB.out | apply below_alloc | apply pw_below_drewN | apply below_drew1 | refine below_set ?_ GE101.out) | exact HB.out)) hb); have n2_ := Aside0.mk (hbox); have n3_ := Aside0.mk ((by rw [hg]; exact (below_size (by repeat (first | (with_reducible first | exact HB.out | apply below_alloc | apply pw_below_drewN | apply below_drew1 | refine below_set ?_ GE101.out) | exact HB.out))) : w.heap.size ≤ gb105)); have n4_ := Aside0.mk ((by rw [hg]; exact (below_size (by repeat (first | (with_reducible first | exact HB.out | apply below_alloc | apply pw_below_drewN | apply below_drew1 | refine below_set ?_ GE101.out) | exact HB.out))) : w.heap.size ≤ gb105)); have n5_ := Aside0.mk ((by rw [hg]; exact Nat.ne_of_lt (blk_lt (g := gb101) (o := .cells #[.int .i64 a0_0, .int .i64 a0_1, .slice (some ad104) l0_2.length c0_2] 30 (0, 0)) (by (with_reducible repeat (first | refine blk_drewN ?_ _ | refine blk_drew ?_ | refine blk_alloc ?_ _)); exact BK101.out)) : gb101 ≠ gb105)); have n6_ := Aside0.mk ((by rw [hg]; exact Nat.ne_of_gt (blk_lt (g := gb101) (o := .cells #[.int .i64 a0_0, .int .i64 a0_1, .slice (some ad104) l0_2.length c0_2] 30 (0, 0)) (by (with_reducible repeat (first | refine blk_drewN ?_ _ | refine blk_drew ?_ | refine blk_alloc ?_ _)); exact BK101.out)) : gb105 ≠ gb101)); clear BK101; clear HB; have BK101 := n0_; have HB := n1_; have BK105 := n2_; have GW105 := n3_; have GE105 := n4_; have NB101_105 := n5_; have NB105_101 := n6_; clear n0_ n1_ n2_ n3_ n4_ n5_ n6_; clear hb hbox hg; have hnb18 := NB105_101.out; have hnc18 := NB101_105.out; have hcz19_0 : w17.cell? ⟨gb105, 0, none⟩ = some (.int .i64 0) := (blk_cell BK105.out 0).trans rfl; have hcz19_1 : w17.cell? ⟨gb105, 1, none⟩ = some (.slice none 0 0) := (blk_cell BK105.out 1).trans rfl; have hfz19_0 := blk_frozen BK105.out 0; have hfz19_1 := blk_frozen BK105.out 1))
                  (try simp only [Act.put, List.setIfInBounds_toArray, List.set_cons_zero, List.set_cons_succ])
                  go_cut [45] (fun v45 wc => ∃ (kq : Nat) (x45_15 : Bool), v45 = .bool x45_15 ∧ Aside0 (spec_GoodGrammar.j2 kq x28_2 l0_2 (l0_2.length : Int) x28_2 x45_15 a0_0 a0_1 l0_2 ((rd_T44 l0_2 x28_2).f0) ((rd_T44 l0_2 x28_2).f1) = some r) ∧ Aside0 (kq ≤ k2) ∧ Aside0 (wc.heap[gb101]? = some (.cells #[.int .i64 a0_0, .int .i64 a0_1, (.slice (some ad104) l0_2.length c0_2)] 30 (0, 0))) ∧ Aside0 (wc.heap[gb105]? = some (.cells #[.int .i64 ((rd_T44 l0_2 x28_2).f0), (.slice A104_1 ((rd_T44 l0_2 x28_2).f1).length c104_1)] 44 (0, 0))) ∧ Aside0 (Below w.heap.size w wc))
                  case first =>
                    have H := HC16.out
                    clear HC16
                    replace H := Option.bind_eq_some_iff.mp H
                    obtain ⟨t106, A200, H⟩ := H
                    replace H : (if t106 = true then (spec_GoodGrammar.j2 k2 x28_2 l0_2 (l0_2.length : Int) x28_2 (decide ((((rd_T44 l0_2 x28_2).f1).length : Int) > 4)) a0_0 a0_1 l0_2 ((rd_T44 l0_2 x28_2).f0) ((rd_T44 l0_2 x28_2).f1)) else (spec_GoodGrammar.j2 k2 x28_2 l0_2 (l0_2.length : Int) x28_2 true a0_0 a0_1 l0_2 ((rd_T44 l0_2 x28_2).f0) ((rd_T44 l0_2 x28_2).f1))) = some r := H
                    have A20 := Aside0.mk A200
                    clear A200
                    by_cases c21 : t106 = true
                    · subst c21
                      have H1 : (spec_GoodGrammar.j2 k2 x28_2 l0_2 (l0_2.length : Int) x28_2 (decide ((((rd_T44 l0_2 x28_2).f1).length : Int) > 4)) a0_0 a0_1 l0_2 ((rd_T44 l0_2 x28_2).f0) ((rd_T44 l0_2 x28_2).f1)) = some r := by rw [if_pos rfl] at H; exact H
                      clear H
                      have H := H1
                      clear H1
                      have H' := Aside0.mk H
                      clear H
                      have hnb22 := NB105_101.out
                      have hnc22 := NB101_105.out
                      have hcz23_0 : w17.cell? ⟨gb105, 0, none⟩ = some (.int .i64 0) := (blk_cell BK105.out 0).trans rfl
                      have hcz23_1 : w17.cell? ⟨gb105, 1, none⟩ = some (.slice none 0 0) := (blk_cell BK105.out 1).trans rfl
                      have hfz23_0 := blk_frozen BK105.out 0
                      have hfz23_1 := blk_frozen BK105.out 1
                      have hcz24_0 : w17.cell? ⟨gb101, 0, none⟩ = some (.int .i64 a0_0) := (blk_cell BK101.out 0).trans rfl
                      have hcz24_1 : w17.cell? ⟨gb101, 1, none⟩ = some (.int .i64 a0_1) := (blk_cell BK101.out 1).trans rfl
                      have hcz24_2 : w17.cell? ⟨gb101, 2, none⟩ = some (.slice (some ad104) l0_2.length c0_2) := (blk_cell BK101.out 2).trans rfl
                      have hfz24_0 := blk_frozen BK101.out 0
                      have hfz24_1 := blk_frozen BK101.out 1
                      have hfz24_2 := blk_frozen BK101.out 2
                      go_wp2_with (first | ((with_reducible refine gate_callee (f := 17) rfl ?_); refine goesL_ (some 38) rfl rfl Tryd.func17 (by kernel_rfl) rfl #[.int .i64 ((rd_T44 l0_2 x28_2).f0), .int .i64 0, .int .i64 (wrap64 (a0_0 - 1))] rfl (by (try simp only [List.map_toArray, List.map_cons, List.map_nil]); first | done | rfl | (simp only [List.length_drop, List.length_take]; rfl)) ?_; (with_reducible refine (spec_l1In.calls ((rd_T44 l0_2 x28_2).f0) 0 (wrap64 (a0_0 - 1)) true _ A20.out).mono ?_); rintro e w' ⟨rfl, ⟨nd, rfl⟩⟩; refine ⟨_, rfl, ?_⟩))
                      go_meet
                      case rel => exact ⟨_, (decide ((((rd_T44 l0_2 x28_2).f1).length : Int) > 4)), (by first | rfl | (simp; done) | (simp [*]; done)), H', ⟨by have := HJ1.out; have := HK2.out; first | omega | exact Nat.le_refl _⟩, ⟨by (with_reducible repeat (first | refine blk_drewN ?_ _ | refine blk_drew ?_ | refine blk_alloc ?_ _)); refine blk_far ?_ NB101_105.out _; (with_reducible repeat (first | refine blk_drewN ?_ _ | refine blk_drew ?_ | refine blk_alloc ?_ _)); refine blk_far ?_ NB101_105.out _; (with_reducible repeat (first | refine blk_drewN ?_ _ | refine blk_drew ?_ | refine blk_alloc ?_ _)); exact BK101.out⟩, ⟨by (with_reducible repeat (first | refine blk_drewN ?_ _ | refine blk_drew ?_ | refine blk_alloc ?_ _)); refine blk_put (cs := #[.int .i64 ((rd_T44 l0_2 x28_2).f0), .slice none 0 0]) ?_ 1 _ rfl; (with_reducible repeat (first | refine blk_drewN ?_ _ | refine blk_drew ?_ | refine blk_alloc ?_ _)); refine blk_put (cs := #[.int .i64 0, .slice none 0 0]) ?_ 0 _ rfl; (with_reducible repeat (first | refine blk_drewN ?_ _ | refine blk_drew ?_ | refine blk_alloc ?_ _)); exact BK105.out⟩, ⟨by repeat (first | (with_reducible first | exact HB.out | apply below_alloc | apply pw_below_drewN | apply below_drew1 | refine below_set ?_ GE101.out | refine below_set ?_ GE105.out) | exact HB.out)⟩⟩
                    · replace c21 := Bool.eq_false_iff.mpr c21
                      subst c21
                      have H1 : (spec_GoodGrammar.j2 k2 x28_2 l0_2 (l0_2.length : Int) x28_2 true a0_0 a0_1 l0_2 ((rd_T44 l0_2 x28_2).f0) ((rd_T44 l0_2 x28_2).f1)) = some r := by rw [if_neg (show ¬ (false = true) by decide)] at H; exact H
                      clear H
                      have H := H1
                      clear H1
                      have H' := Aside0.mk H
                      clear H
                      have hnb25 := NB105_101.out
                      have hnc25 := NB101_105.out
                      have hcz26_0 : w17.cell? ⟨gb105, 0, none⟩ = some (.int .i64 0) := (blk_cell BK105.out 0).trans rfl
                      have hcz26_1 : w17.cell? ⟨gb105, 1, none⟩ = some (.slice none 0 0) := (blk_cell BK105.out 1).trans rfl
                      have hfz26_0 := blk_frozen BK105.out 0
                      have hfz26_1 := blk_frozen BK105.out 1
                      have hcz27_0 : w17.cell? ⟨gb101, 0, none⟩ = some (.int .i64 a0_0) := (blk_cell BK101.out 0).trans rfl
                      have hcz27_1 : w17.cell? ⟨gb101, 1, none⟩ = some (.int .i64 a0_1) := (blk_cell BK101.out 1).trans rfl
                      have hcz27_2 : w17.cell? ⟨gb101, 2, none⟩ = some (.slice (some ad104) l0_2.length c0_2) := (blk_cell BK101.out 2).trans rfl
                      have hfz27_0 := blk_frozen BK101.out 0
                      have hfz27_1 := blk_frozen BK101.out 1
                      have hfz27_2 := blk_frozen BK101.out 2
                      go_wp2_with (first | ((with_reducible refine gate_callee (f := 17) rfl ?_); refine goesL_ (some 38) rfl rfl Tryd.func17 (by kernel_rfl) rfl #[.int .i64 ((rd_T44 l0_2 x28_2).f0), .int .i64 0, .int .i64 (wrap64 (a0_0 - 1))] rfl (by (try simp only [List.map_toArray, List.map_cons, List.map_nil]); first | done | rfl | (simp only [List.length_drop, List.length_take]; rfl)) ?_; (with_reducible refine (spec_l1In.calls ((rd_T44 l0_2 x28_2).f0) 0 (wrap64 (a0_0 - 1)) false _ A20.out).mono ?_); rintro e w' ⟨rfl, ⟨nd, rfl⟩⟩; refine ⟨_, rfl, ?_⟩))
                      go_meet
                      case rel => exact ⟨_, (true), (by first | rfl | (simp; done) | (simp [*]; done)), H', ⟨by have := HJ1.out; have := HK2.out; first | omega | exact Nat.le_refl _⟩, ⟨by (with_reducible repeat (first | refine blk_drewN ?_ _ | refine blk_drew ?_ | refine blk_alloc ?_ _)); refine blk_far ?_ NB101_105.out _; (with_reducible repeat (first | refine blk_drewN ?_ _ | refine blk_drew ?_ | refine blk_alloc ?_ _)); refine blk_far ?_ NB101_105.out _; (with_reducible repeat (first | refine blk_drewN ?_ _ | refine blk_drew ?_ | refine blk_alloc ?_ _)); exact BK101.out⟩, ⟨by (with_reducible repeat (first | refine blk_drewN ?_ _ | refine blk_drew ?_ | refine blk_alloc ?_ _)); refine blk_put (cs := #[.int .i64 ((rd_T44 l0_2 x28_2).f0), .slice none 0 0]) ?_ 1 _ rfl; (with_reducible repeat (first | refine blk_drewN ?_ _ | refine blk_drew ?_ | refine blk_alloc ?_ _)); refine blk_put (cs := #[.int .i64 0, .slice none 0 0]) ?_ 0 _ rfl; (with_reducible repeat (first | refine blk_drewN ?_ _ | refine blk_drew ?_ | refine blk_alloc ?_ _)); exact BK105.out⟩, ⟨by repeat (first | (with_reducible first | exact HB.out | apply below_alloc | apply pw_below_drewN | apply below_drew1 | refine below_set ?_ GE101.out | refine below_set ?_ GE105.out) | exact HB.out)⟩⟩
                  case rest =>
                    clear HC16
                    try clear c1
                    try clear p1
                    try clear q1
                    try clear hx1
                    try clear c2
                    try clear p2
                    try clear c5
                    try clear p6
                    try clear c7
                    try clear c10
                    try clear p10
                    try clear q10
                    try clear hx10
                    try clear c11
                    try clear c13
                    try clear c13b0
                    try clear c14
                    try clear c14b0
                    try clear c15
                    try clear c15b0
                    try clear c17
                    try clear c18
                    try clear c21
                    try clear c22
                    try clear c25
                    try clear hcz10_0
                    try clear hcz10_1
                    try clear hcz10_2
                    try clear hcz12_0
                    try clear hcz12_1
                    try clear hcz12_2
                    try clear hcz19_0
                    try clear hcz19_1
                    try clear hcz23_0
                    try clear hcz23_1
                    try clear hcz24_0
                    try clear hcz24_1
                    try clear hcz24_2
                    try clear hcz26_0
                    try clear hcz26_1
                    try clear hcz27_0
                    try clear hcz27_1
                    try clear hcz27_2
                    try clear hcz8_0
                    try clear hcz8_1
                    try clear hcz8_2
                    try clear hcz9_0
                    try clear hcz9_1
                    try clear hcz9_2
                    try clear hfz10_0
                    try clear hfz10_1
                    try clear hfz10_2
                    try clear hfz12_0
                    try clear hfz12_1
                    try clear hfz12_2
                    try clear hfz19_0
                    try clear hfz19_1
                    try clear hfz23_0
                    try clear hfz23_1
                    try clear hfz24_0
                    try clear hfz24_1
                    try clear hfz24_2
                    try clear hfz26_0
                    try clear hfz26_1
                    try clear hfz27_0
                    try clear hfz27_1
                    try clear hfz27_2
                    try clear hfz8_0
                    try clear hfz8_1
                    try clear hfz8_2
                    try clear hfz9_0
                    try clear hfz9_1
                    try clear hfz9_2
                    try clear hx104_0
                    try clear hx104_1
                    try clear p104
                    try clear p2
                    try clear q104
                    obtain ⟨kq, x45_15, rfl, HA, HJ15, BK101, BK105, HB⟩ := hcut
                    cases kq with
                    | zero => exact absurd HA.out (by simp [spec_GoodGrammar.j2])
                    | succ kj15 =>
                      have H := HA.out
                      clear HA
                      simp only [spec_GoodGrammar.j2] at H
                      by_cases c28 : x45_15 = true
                      · subst c28
                        have H1 : (some false) = some r := by rw [if_pos rfl] at H; exact H
                        clear H
                        have H := H1
                        clear H1
                        obtain rfl := Option.some.inj H
                        go_wp2
                        go_ret
                        exact ⟨by first | rfl | (simp [errW_none, errW_some] <;> rfl) | (simp [*, errW_none, errW_some] <;> rfl), by repeat (first | (with_reducible first | exact HB.out | apply below_alloc | apply pw_below_drewN | apply below_drew1 | refine below_set ?_ GE101.out | refine below_set ?_ GE105.out) | exact HB.out)⟩
                      · replace c28 := Bool.eq_false_iff.mpr c28
                        subst c28
                        have H1 : (spec_GoodGrammar.l1 kj15 x28_2 l0_2 (l0_2.length : Int) x28_2 ((rd_T44 l0_2 x28_2).f1) (((rd_T44 l0_2 x28_2).f1).length : Int) 0 a0_0 a0_1 l0_2 ((rd_T44 l0_2 x28_2).f0) ((rd_T44 l0_2 x28_2).f1)) = some r := by rw [if_neg (show ¬ (false = true) by decide)] at H; exact H
                        clear H
                        have H := H1
                        clear H1
                        have H' := Aside0.mk H
                        clear H
                        have hnb29 := NB105_101.out
                        have hnc29 := NB101_105.out
                        have hcz30_0 : wc.cell? ⟨gb105, 0, none⟩ = some (.int .i64 ((rd_T44 l0_2 x28_2).f0)) := (blk_cell BK105.out 0).trans rfl
                        have hcz30_1 : wc.cell? ⟨gb105, 1, none⟩ = some (.slice A104_1 ((rd_T44 l0_2 x28_2).f1).length c104_1) := (blk_cell BK105.out 1).trans rfl
                        have hfz30_0 := blk_frozen BK105.out 0
                        have hfz30_1 := blk_frozen BK105.out 1
                        go_wp2
                        go_loopg [49] kj15 (fun kq v49 w' => ∃ (x49_4 : Int), v49 = .int .i64 x49_4 ∧ Aside0 (spec_GoodGrammar.l1 kq x28_2 l0_2 (l0_2.length : Int) x28_2 ((rd_T44 l0_2 x28_2).f1) (((rd_T44 l0_2 x28_2).f1).length : Int) x49_4 a0_0 a0_1 l0_2 ((rd_T44 l0_2 x28_2).f0) ((rd_T44 l0_2 x28_2).f1) = some r) ∧ Aside0 (kq ≤ kj15) ∧ Aside0 (w'.heap[gb101]? = some (.cells #[.int .i64 a0_0, .int .i64 a0_1, (.slice (some ad104) l0_2.length c0_2)] 30 (0, 0))) ∧ Aside0 (w'.heap[gb105]? = some (.cells #[.int .i64 ((rd_T44 l0_2 x28_2).f0), (.slice A104_1 ((rd_T44 l0_2 x28_2).f1).length c104_1)] 44 (0, 0))) ∧ Aside0 (Below w.heap.size w w'))
                        case atStart => exact ⟨(0), (by first | rfl | (simp; done) | (simp [*]; done)), H', ⟨Nat.le_refl _⟩, ⟨by (with_reducible repeat (first | refine blk_drewN ?_ _ | refine blk_drew ?_ | refine blk_alloc ?_ _)); exact BK101.out⟩, ⟨by (with_reducible repeat (first | refine blk_drewN ?_ _ | refine blk_drew ?_ | refine blk_alloc ?_ _)); exact BK105.out⟩, ⟨by repeat (first | (with_reducible first | exact HB.out | apply below_alloc | apply pw_below_drewN | apply below_drew1 | refine below_set ?_ GE101.out | refine below_set ?_ GE105.out) | exact HB.out)⟩⟩
                        case round =>
                          clear H'
                          try clear c1
                          try clear p1
                          try clear q1
                          try clear hx1
                          try clear c2
                          try clear p2
                          try clear c5
                          try clear p6
                          try clear c7
                          try clear c10
                          try clear p10
                          try clear q10
                          try clear hx10
                          try clear c11
                          try clear c13
                          try clear c13b0
                          try clear c14
                          try clear c14b0
                          try clear c15
                          try clear c15b0
                          try clear c17
                          try clear c18
                          try clear c21
                          try clear c22
                          try clear c25
                          try clear c28
                          try clear c29
                          try clear hcz10_0
                          try clear hcz10_1
                          try clear hcz10_2
                          try clear hcz12_0
                          try clear hcz12_1
                          try clear hcz12_2
                          try clear hcz19_0
                          try clear hcz19_1
                          try clear hcz23_0
                          try clear hcz23_1
                          try clear hcz24_0
                          try clear hcz24_1
                          try clear hcz24_2
                          try clear hcz26_0
                          try clear hcz26_1
                          try clear hcz27_0
                          try clear hcz27_1
                          try clear hcz27_2
                          try clear hcz30_0
                          try clear hcz30_1
                          try clear hcz8_0
                          try clear hcz8_1
                          try clear hcz8_2
                          try clear hcz9_0
                          try clear hcz9_1
                          try clear hcz9_2
                          try clear hfz10_0
                          try clear hfz10_1
                          try clear hfz10_2
                          try clear hfz12_0
                          try clear hfz12_1
                          try clear hfz12_2
                          try clear hfz19_0
                          try clear hfz19_1
                          try clear hfz23_0
                          try clear hfz23_1
                          try clear hfz24_0
                          try clear hfz24_1
                          try clear hfz24_2
                          try clear hfz26_0
                          try clear hfz26_1
                          try clear hfz27_0
                          try clear hfz27_1
                          try clear hfz27_2
                          try clear hfz30_0
                          try clear hfz30_1
                          try clear hfz8_0
                          try clear hfz8_1
                          try clear hfz8_2
                          try clear hfz9_0
                          try clear hfz9_1
                          try clear hfz9_2
                          try clear hx104_0
                          try clear hx104_1
                          try clear p1
                          try clear p10
                          try clear p104
                          try clear p2
                          try clear p6
                          try clear q1
                          try clear q10
                          try clear q104
                          obtain ⟨x49_4, rfl, HA, HK4, BK101, BK105, HB⟩ := hrel
                          cases gk with
                          | zero => exact absurd HA.out (by simp [spec_GoodGrammar.l1])
                          | succ k4 =>
                            have H := HA.out
                            clear HA
                            simp only [spec_GoodGrammar.l1] at H
                            by_cases c31 : x49_4 < (((rd_T44 l0_2 x28_2).f1).length : Int)
                            · rw [if_pos c31] at H
                              have c31b0 : decide (x49_4 < (((rd_T44 l0_2 x28_2).f1).length : Int)) = true := decide_eq_true c31
                              clear c31
                              by_cases c32 : 0 ≤ x49_4
                              · rw [if_pos c32] at H
                                have c32b0 : decide (0 ≤ x49_4) = true := decide_eq_true c32
                                clear c32
                                by_cases c33 : x49_4 < (((rd_T44 l0_2 x28_2).f1).length : Int)
                                · rw [if_pos c33] at H
                                  have c33b0 : decide (x49_4 < (((rd_T44 l0_2 x28_2).f1).length : Int)) = true := decide_eq_true c33
                                  clear c33
                                  replace H := Option.bind_eq_some_iff.mp H
                                  obtain ⟨t108, A340, H⟩ := H
                                  replace H : (if t108 = true then (spec_GoodGrammar.l1 k4 x28_2 l0_2 (l0_2.length : Int) x28_2 ((rd_T44 l0_2 x28_2).f1) (((rd_T44 l0_2 x28_2).f1).length : Int) (wrap64 (x49_4 + 1)) a0_0 a0_1 l0_2 ((rd_T44 l0_2 x28_2).f0) ((rd_T44 l0_2 x28_2).f1)) else (some false)) = some r := H
                                  have A34 := Aside0.mk A340
                                  clear A340
                                  by_cases c35 : t108 = true
                                  · subst c35
                                    have H1 : (spec_GoodGrammar.l1 k4 x28_2 l0_2 (l0_2.length : Int) x28_2 ((rd_T44 l0_2 x28_2).f1) (((rd_T44 l0_2 x28_2).f1).length : Int) (wrap64 (x49_4 + 1)) a0_0 a0_1 l0_2 ((rd_T44 l0_2 x28_2).f0) ((rd_T44 l0_2 x28_2).f1)) = some r := by rw [if_pos rfl] at H; exact H
                                    clear H
                                    have H := H1
                                    clear H1
                                    have H' := Aside0.mk H
                                    clear H
                                    have p107 : 0 ≤ (x49_4 : Int) := of_decide_eq_true (by first | (with_reducible assumption) | assumption)
                                    have q107 : x49_4 < (((rd_T44 l0_2 x28_2).f1).length : Int) := of_decide_eq_true (by first | (with_reducible assumption) | assumption)
                                    obtain ⟨ad107, e107, hx107_0⟩ := Kd.at_int HR104_1.out x49_4 p107 q107
                                    cases e107
                                    replace hx107_0 := (HB.out.cell (World.block_lt_of_cell? w _ hx107_0)).trans hx107_0
                                    replace p107 := eq_true p107
                                    replace q107 := eq_true q107
                                    have hnb36 := NB101_105.out
                                    have hnc36 := NB105_101.out
                                    have hcz37_0 : wr.cell? ⟨gb101, 0, none⟩ = some (.int .i64 a0_0) := (blk_cell BK101.out 0).trans rfl
                                    have hcz37_1 : wr.cell? ⟨gb101, 1, none⟩ = some (.int .i64 a0_1) := (blk_cell BK101.out 1).trans rfl
                                    have hcz37_2 : wr.cell? ⟨gb101, 2, none⟩ = some (.slice (some ad104) l0_2.length c0_2) := (blk_cell BK101.out 2).trans rfl
                                    have hfz37_0 := blk_frozen BK101.out 0
                                    have hfz37_1 := blk_frozen BK101.out 1
                                    have hfz37_2 := blk_frozen BK101.out 2
                                    go_wp2_with (first | ((with_reducible refine gate_callee (f := 18) rfl ?_); refine goesL_ (some 55) rfl rfl Tryd.func18 (by kernel_rfl) rfl #[.agg #[.int .i64 a0_0, .int .i64 a0_1, .slice (some ad104) l0_2.length c0_2], .int .i64 (rd ((rd_T44 l0_2 x28_2).f1) x49_4)] rfl (by (try simp only [List.map_toArray, List.map_cons, List.map_nil]); first | done | rfl | (simp only [List.length_drop, List.length_take]; rfl)) ?_; (with_reducible refine (spec_l1Symbol.calls a0_0 a0_1 _ _ l0_2 (rd ((rd_T44 l0_2 x28_2).f1) x49_4) true _ ?side1 ?side2 A34.out).mono ?_); (case side1 => repeat (first | exact (Kd.C_below HR0_2.out HB.out) | (with_reducible refine Kd.C_alloc ?_ _) | (with_reducible refine Kd.C_drewN ?_ _) | (with_reducible refine Kd.C_drew ?_))); (case side2 => exact HC0_2.out); rintro e w38 ⟨rfl, hb⟩; refine ⟨_, rfl, ?_⟩; have n0_ := Aside0.mk (blk_below (g := gb101) (o := .cells #[.int .i64 a0_0, .int .i64 a0_1, .slice (some ad104) l0_2.length c0_2] 30 (0, 0)) (by (with_reducible repeat (first | refine blk_drewN ?_ _ | refine blk_drew ?_ | refine blk_alloc ?_ _)); exact BK101.out) hb); have n1_ := Aside0.mk (blk_below (g := gb105) (o := .cells #[.int .i64 ((rd_T44 l0_2 x28_2).f0), .slice (some ad107) ((rd_T44 l0_2 x28_2).f1).length c104_1] 44 (0, 0)) (by (with_reducible repeat (first | refine blk_drewN ?_ _ | refine blk_drew ?_ | refine blk_alloc ?_ _)); exact BK105.out) hb); have n2_ := Aside0.mk (below_step (by repeat (first | (with_reducible first | exact HB.out | apply below_alloc | apply pw_below_drewN | apply below_drew1 | refine below_set ?_ GE101.out | refine below_set ?_ GE105.out) | exact HB.out)) hb); clear BK101; clear BK105; clear HB; have BK101 := n0_; have BK105 := n1_; have HB := n2_; clear n0_ n1_ n2_; (try clear hb); (try clear hb2); (try clear hk); (try clear hi)))
                                    go_roundg k4
                                    case measure => have := HJ1.out; have := HK2.out; have := HJ15.out; have := HK4.out; omega
                                    case rel => exact ⟨(wrap64 (x49_4 + 1)), (by first | rfl | (simp; done) | (simp [*]; done)), H', ⟨by have := HJ1.out; have := HK2.out; have := HJ15.out; have := HK4.out; omega⟩, ⟨by (with_reducible repeat (first | refine blk_drewN ?_ _ | refine blk_drew ?_ | refine blk_alloc ?_ _)); exact BK101.out⟩, ⟨by (with_reducible repeat (first | refine blk_drewN ?_ _ | refine blk_drew ?_ | refine blk_alloc ?_ _)); exact BK105.out⟩, ⟨by repeat (first | (with_reducible first | exact HB.out | apply below_alloc | apply pw_below_drewN | apply below_drew1 | refine below_set ?_ GE101.out | refine below_set ?_ GE105.out) | exact HB.out)⟩⟩
                                  · replace c35 := Bool.eq_false_iff.mpr c35
                                    subst c35
                                    have H1 : (some false) = some r := by rw [if_neg (show ¬ (false = true) by decide)] at H; exact H
                                    clear H
                                    have H := H1
                                    clear H1
                                    obtain rfl := Option.some.inj H
                                    have p107 : 0 ≤ (x49_4 : Int) := of_decide_eq_true (by first | (with_reducible assumption) | assumption)
                                    have q107 : x49_4 < (((rd_T44 l0_2 x28_2).f1).length : Int) := of_decide_eq_true (by first | (with_reducible assumption) | assumption)
                                    obtain ⟨ad107, e107, hx107_0⟩ := Kd.at_int HR104_1.out x49_4 p107 q107
                                    cases e107
                                    replace hx107_0 := (HB.out.cell (World.block_lt_of_cell? w _ hx107_0)).trans hx107_0
                                    replace p107 := eq_true p107
                                    replace q107 := eq_true q107
                                    have hnb39 := NB101_105.out
                                    have hnc39 := NB105_101.out
                                    have hcz40_0 : wr.cell? ⟨gb101, 0, none⟩ = some (.int .i64 a0_0) := (blk_cell BK101.out 0).trans rfl
                                    have hcz40_1 : wr.cell? ⟨gb101, 1, none⟩ = some (.int .i64 a0_1) := (blk_cell BK101.out 1).trans rfl
                                    have hcz40_2 : wr.cell? ⟨gb101, 2, none⟩ = some (.slice (some ad104) l0_2.length c0_2) := (blk_cell BK101.out 2).trans rfl
                                    have hfz40_0 := blk_frozen BK101.out 0
                                    have hfz40_1 := blk_frozen BK101.out 1
                                    have hfz40_2 := blk_frozen BK101.out 2
                                    go_wp2_with (first | ((with_reducible refine gate_callee (f := 18) rfl ?_); refine goesL_ (some 55) rfl rfl Tryd.func18 (by kernel_rfl) rfl #[.agg #[.int .i64 a0_0, .int .i64 a0_1, .slice (some ad104) l0_2.length c0_2], .int .i64 (rd ((rd_T44 l0_2 x28_2).f1) x49_4)] rfl (by (try simp only [List.map_toArray, List.map_cons, List.map_nil]); first | done | rfl | (simp only [List.length_drop, List.length_take]; rfl)) ?_; (with_reducible refine (spec_l1Symbol.calls a0_0 a0_1 _ _ l0_2 (rd ((rd_T44 l0_2 x28_2).f1) x49_4) false _ ?side1 ?side2 A34.out).mono ?_); (case side1 => repeat (first | exact (Kd.C_below HR0_2.out HB.out) | (with_reducible refine Kd.C_alloc ?_ _) | (with_reducible refine Kd.C_drewN ?_ _) | (with_reducible refine Kd.C_drew ?_))); (case side2 => exact HC0_2.out); rintro e w41 ⟨rfl, hb⟩; refine ⟨_, rfl, ?_⟩; have n0_ := Aside0.mk (blk_below (g := gb101) (o := .cells #[.int .i64 a0_0, .int .i64 a0_1, .slice (some ad104) l0_2.length c0_2] 30 (0, 0)) (by (with_reducible repeat (first | refine blk_drewN ?_ _ | refine blk_drew ?_ | refine blk_alloc ?_ _)); exact BK101.out) hb); have n1_ := Aside0.mk (blk_below (g := gb105) (o := .cells #[.int .i64 ((rd_T44 l0_2 x28_2).f0), .slice (some ad107) ((rd_T44 l0_2 x28_2).f1).length c104_1] 44 (0, 0)) (by (with_reducible repeat (first | refine blk_drewN ?_ _ | refine blk_drew ?_ | refine blk_alloc ?_ _)); exact BK105.out) hb); have n2_ := Aside0.mk (below_step (by repeat (first | (with_reducible first | exact HB.out | apply below_alloc | apply pw_below_drewN | apply below_drew1 | refine below_set ?_ GE101.out | refine below_set ?_ GE105.out) | exact HB.out)) hb); clear BK101; clear BK105; clear HB; have BK101 := n0_; have BK105 := n1_; have HB := n2_; clear n0_ n1_ n2_; (try clear hb); (try clear hb2); (try clear hk); (try clear hi)))
                                    go_ret
                                    exact ⟨by first | rfl | (simp [errW_none, errW_some] <;> rfl) | (simp [*, errW_none, errW_some] <;> rfl), by repeat (first | (with_reducible first | exact HB.out | apply below_alloc | apply pw_below_drewN | apply below_drew1 | refine below_set ?_ GE101.out | refine below_set ?_ GE105.out) | exact HB.out)⟩
                                · rw [if_neg c33] at H
                                  exact absurd H (by simp)
                              · rw [if_neg c32] at H
                                exact absurd H (by simp)
                            · rw [if_neg c31] at H
                              have c31b0 : decide (x49_4 < (((rd_T44 l0_2 x28_2).f1).length : Int)) = false := decide_eq_false c31
                              clear c31
                              by_cases c42 : 0 ≤ x28_2
                              · rw [if_pos c42] at H
                                have c42b0 := eq_true c42
                                have c42b1 : decide (0 ≤ x28_2) = true := decide_eq_true c42
                                clear c42
                                by_cases c43 : x28_2 ≤ (l0_2.length : Int)
                                · rw [if_pos c43] at H
                                  have c43b0 := eq_true c43
                                  have c43b1 : decide (x28_2 ≤ (l0_2.length : Int)) = true := decide_eq_true c43
                                  clear c43
                                  obtain ⟨y109, hy109⟩ : ∃ y_ : List (S44), y_ = (l0_2.take (x28_2 : Int).toNat) := ⟨_, rfl⟩
                                  replace H : (spec_GoodGrammar.l2 k4 l0_2 (l0_2.length : Int) x28_2 y109 (y109.length : Int) 0 a0_0 a0_1 l0_2 ((rd_T44 l0_2 x28_2).f0) ((rd_T44 l0_2 x28_2).f1)) = some r := by first | (rw [hy109]; with_reducible exact H) | (have H2_ := (Option.bind_some _ _).symm.trans H; rw [hy109]; with_reducible exact H2_) | (have H2_ := (Option.bind_some _ _).symm.trans H; with_reducible exact H2_) | with_reducible exact H | (rw [hy109]; exact H) | exact H
                                  have Ny109 := Aside0.mk hy109
                                  clear hy109
                                  have H' := Aside0.mk H
                                  clear H
                                  have hnb44 := NB101_105.out
                                  have hnc44 := NB105_101.out
                                  have hcz45_0 : wr.cell? ⟨gb101, 0, none⟩ = some (.int .i64 a0_0) := (blk_cell BK101.out 0).trans rfl
                                  have hcz45_1 : wr.cell? ⟨gb101, 1, none⟩ = some (.int .i64 a0_1) := (blk_cell BK101.out 1).trans rfl
                                  have hcz45_2 : wr.cell? ⟨gb101, 2, none⟩ = some (.slice (some ad104) l0_2.length c0_2) := (blk_cell BK101.out 2).trans rfl
                                  have hfz45_0 := blk_frozen BK101.out 0
                                  have hfz45_1 := blk_frozen BK101.out 1
                                  have hfz45_2 := blk_frozen BK101.out 2
                                  have q46 : (x28_2 : Int) ≤ ((l0_2.length : Int) : Int) := of_decide_eq_true (by first | (with_reducible assumption) | assumption)
                                  obtain ⟨i046, hi046, _, hsz46, _⟩ := info_parts info44
                                  have hroom46 : l0_2.length ≤ c0_2 := HC0_2.out
                                  have hC46 : Kd.C k44 _ (some ad104) l0_2.length l0_2 := HR0_2.out
                                  have hcut46 := cut_to (P := Tryd.prog) 28 44 .i64 Tryd.underlying28 hi046 (some ad104) l0_2.length c0_2 x28_2 (of_decide_eq_true (by first | (with_reducible assumption) | assumption)) q46 hroom46
                                  have hr46 := Kd.C_take (m := (x28_2 : Int).toNat) hC46 (by omega)
                                  have hy46 : y109.length = (x28_2 : Int).toNat := (by rw [Ny109.out, List.length_take]; omega)
                                  rw [← Ny109.out] at hr46
                                  rw [← hy46] at hcut46
                                  have HR112 := Aside0.mk hr46
                                  have HC112 := Aside0.mk (show y109.length ≤ c0_2 from by omega)
                                  clear hr46 hC46 hroom46 hi046 hsz46
                                  have KY46 := Aside0.mk hy46
                                  clear hy46
                                  replace q46 := eq_true q46
                                  go_wp2
                                  go_loopg [63] k4 (fun kq v63 w' => ∃ (x63_5 : Int), v63 = .int .i64 x63_5 ∧ Aside0 (spec_GoodGrammar.l2 kq l0_2 (l0_2.length : Int) x28_2 y109 (y109.length : Int) x63_5 a0_0 a0_1 l0_2 ((rd_T44 l0_2 x28_2).f0) ((rd_T44 l0_2 x28_2).f1) = some r) ∧ Aside0 (kq ≤ k4) ∧ Aside0 (w'.heap[gb101]? = some (.cells #[.int .i64 a0_0, .int .i64 a0_1, (.slice (some ad104) l0_2.length c0_2)] 30 (0, 0))) ∧ Aside0 (w'.heap[gb105]? = some (.cells #[.int .i64 ((rd_T44 l0_2 x28_2).f0), (.slice A104_1 ((rd_T44 l0_2 x28_2).f1).length c104_1)] 44 (0, 0))) ∧ Aside0 (Below w.heap.size w w'))
                                  case atStart => exact ⟨(0), (by first | rfl | (simp; done) | (simp [*]; done)), H', ⟨Nat.le_refl _⟩, ⟨by (with_reducible repeat (first | refine blk_drewN ?_ _ | refine blk_drew ?_ | refine blk_alloc ?_ _)); exact BK101.out⟩, ⟨by (with_reducible repeat (first | refine blk_drewN ?_ _ | refine blk_drew ?_ | refine blk_alloc ?_ _)); exact BK105.out⟩, ⟨by repeat (first | (with_reducible first | exact HB.out | apply below_alloc | apply pw_below_drewN | apply below_drew1 | refine below_set ?_ GE101.out | refine below_set ?_ GE105.out) | exact HB.out)⟩⟩
                                  case round =>
                                    clear H'
                                    try clear c1
                                    try clear p1
                                    try clear q1
                                    try clear hx1
                                    try clear c2
                                    try clear p2
                                    try clear c3
                                    try clear c4
                                    try clear q4
                                    try clear c5
                                    try clear p6
                                    try clear c7
                                    try clear c10
                                    try clear p10
                                    try clear q10
                                    try clear hx10
                                    try clear c11
                                    try clear c13
                                    try clear c13b0
                                    try clear c14
                                    try clear c14b0
                                    try clear c15
                                    try clear c15b0
                                    try clear c17
                                    try clear c18
                                    try clear c21
                                    try clear c22
                                    try clear c25
                                    try clear c28
                                    try clear c29
                                    try clear c31
                                    try clear c31b0
                                    try clear c32
                                    try clear c32b0
                                    try clear c33
                                    try clear c33b0
                                    try clear c35
                                    try clear c36
                                    try clear c39
                                    try clear c42
                                    try clear c42b0
                                    try clear c42b1
                                    try clear c43
                                    try clear c43b0
                                    try clear c43b1
                                    try clear c44
                                    try clear q46
                                    try clear hcz10_0
                                    try clear hcz10_1
                                    try clear hcz10_2
                                    try clear hcz12_0
                                    try clear hcz12_1
                                    try clear hcz12_2
                                    try clear hcz19_0
                                    try clear hcz19_1
                                    try clear hcz23_0
                                    try clear hcz23_1
                                    try clear hcz24_0
                                    try clear hcz24_1
                                    try clear hcz24_2
                                    try clear hcz26_0
                                    try clear hcz26_1
                                    try clear hcz27_0
                                    try clear hcz27_1
                                    try clear hcz27_2
                                    try clear hcz30_0
                                    try clear hcz30_1
                                    try clear hcz37_0
                                    try clear hcz37_1
                                    try clear hcz37_2
                                    try clear hcz40_0
                                    try clear hcz40_1
                                    try clear hcz40_2
                                    try clear hcz45_0
                                    try clear hcz45_1
                                    try clear hcz45_2
                                    try clear hcz8_0
                                    try clear hcz8_1
                                    try clear hcz8_2
                                    try clear hcz9_0
                                    try clear hcz9_1
                                    try clear hcz9_2
                                    try clear hfz10_0
                                    try clear hfz10_1
                                    try clear hfz10_2
                                    try clear hfz12_0
                                    try clear hfz12_1
                                    try clear hfz12_2
                                    try clear hfz19_0
                                    try clear hfz19_1
                                    try clear hfz23_0
                                    try clear hfz23_1
                                    try clear hfz24_0
                                    try clear hfz24_1
                                    try clear hfz24_2
                                    try clear hfz26_0
                                    try clear hfz26_1
                                    try clear hfz27_0
                                    try clear hfz27_1
                                    try clear hfz27_2
                                    try clear hfz30_0
                                    try clear hfz30_1
                                    try clear hfz37_0
                                    try clear hfz37_1
                                    try clear hfz37_2
                                    try clear hfz40_0
                                    try clear hfz40_1
                                    try clear hfz40_2
                                    try clear hfz45_0
                                    try clear hfz45_1
                                    try clear hfz45_2
                                    try clear hfz8_0
                                    try clear hfz8_1
                                    try clear hfz8_2
                                    try clear hfz9_0
                                    try clear hfz9_1
                                    try clear hfz9_2
                                    try clear hx104_0
                                    try clear hx104_1
                                    try clear hx107_0
                                    try clear p1
                                    try clear p10
                                    try clear p104
                                    try clear p107
                                    try clear p2
                                    try clear p6
                                    try clear q1
                                    try clear q10
                                    try clear q104
                                    try clear q107
                                    try clear q46
                                    obtain ⟨x63_5, rfl, HA, HK5, BK101, BK105, HB⟩ := hrel
                                    cases gk with
                                    | zero => exact absurd HA.out (by simp [spec_GoodGrammar.l2])
                                    | succ k5 =>
                                      have H := HA.out
                                      clear HA
                                      simp only [spec_GoodGrammar.l2] at H
                                      by_cases c47 : x63_5 < (y109.length : Int)
                                      · rw [if_pos c47] at H
                                        have c47b0 : decide (x63_5 < (y109.length : Int)) = true := decide_eq_true c47
                                        clear c47
                                        by_cases c48 : 0 ≤ x63_5
                                        · rw [if_pos c48] at H
                                          have c48b0 : decide (0 ≤ x63_5) = true := decide_eq_true c48
                                          clear c48
                                          by_cases c49 : x63_5 < (y109.length : Int)
                                          · rw [if_pos c49] at H
                                            have c49b0 : decide (x63_5 < (y109.length : Int)) = true := decide_eq_true c49
                                            clear c49
                                            replace H := Option.bind_eq_some_iff.mp H
                                            obtain ⟨t115, A500, H⟩ := H
                                            replace H : (if t115 = true then (some false) else (spec_GoodGrammar.l2 k5 l0_2 (l0_2.length : Int) x28_2 y109 (y109.length : Int) (wrap64 (x63_5 + 1)) a0_0 a0_1 l0_2 ((rd_T44 l0_2 x28_2).f0) ((rd_T44 l0_2 x28_2).f1))) = some r := H
                                            have A50 := Aside0.mk A500
                                            clear A500
                                            by_cases c51 : t115 = true
                                            · subst c51
                                              have H1 : (some false) = some r := by rw [if_pos rfl] at H; exact H
                                              clear H
                                              have H := H1
                                              clear H1
                                              obtain rfl := Option.some.inj H
                                              have p113 : 0 ≤ (x63_5 : Int) := of_decide_eq_true (by first | (with_reducible assumption) | assumption)
                                              have q113 : x63_5 < (y109.length : Int) := of_decide_eq_true (by first | (with_reducible assumption) | assumption)
                                              obtain ⟨ad113, A113_1, c113_1, e113, hx113_0, hx113_1, hl113_1, hi113_1⟩ := at_T44 HR112.out x63_5 p113 q113
                                              obtain rfl : ad104 = ad113 := (by injection e113)
                                              replace hx113_0 := (HB.out.cell (World.block_lt_of_cell? w _ hx113_0)).trans hx113_0
                                              replace hx113_1 := (HB.out.cell (World.block_lt_of_cell? w _ hx113_1)).trans hx113_1
                                              have HR113_1 := Aside0.mk hi113_1
                                              have HC113_1 := Aside0.mk hl113_1
                                              clear hi113_1 hl113_1
                                              replace p113 := eq_true p113
                                              replace q113 := eq_true q113
                                              go_wp2_with (first | ((with_reducible refine gate_dst (N := 8) rfl ?_); (try (refine gate_guard (by rfl) ?_; dsimp only)); refine box_event ?hg (N := 8) ?hd (cs := #[.int .i64 0, .slice none 0 0]) (t := 44) ?hr ?_; (case hd => rfl); (case hg => rfl); (case hr => first | (go_simp; done) | (go_simp; rfl)); intro gb114 hg w52 hbox hb; have n0_ := Aside0.mk (blk_below (g := gb101) (o := .cells #[.int .i64 a0_0, .int .i64 a0_1, .slice (some ad104) l0_2.length c0_2] 30 (0, 0)) (by (with_reducible repeat (first | refine blk_drewN ?_ _ | refine blk_drew ?_ | refine blk_alloc ?_ _)); exact BK101.out) hb); have n1_ := Aside0.mk (blk_below (g := gb105) (o := .cells #[.int .i64 ((rd_T44 l0_2 x28_2).f0), .slice A104_1 ((rd_T44 l0_2 x28_2).f1).length c104_1] 44 (0, 0)) (by (with_reducible repeat (first | refine blk_drewN ?_ _ | refine blk_drew ?_ | refine blk_alloc ?_ _)); exact BK105.out) hb); have n2_ := Aside0.mk (below_step (by repeat (first | (with_reducible first | exact HB.out | apply below_alloc | apply pw_below_drewN | apply below_drew1 | refine below_set ?_ GE101.out | refine below_set ?_ GE105.out) | exact HB.out)) hb); have n3_ := Aside0.mk (hbox); have n4_ := Aside0.mk ((by rw [hg]; exact (below_size (by repeat (first | (with_reducible first | exact HB.out | apply below_alloc | apply pw_below_drewN | apply below_drew1 | refine below_set ?_ GE101.out | refine below_set ?_ GE105.out) | exact HB.out))) : w.heap.size ≤ gb114)); have n5_ := Aside0.mk ((by rw [hg]; exact (below_size (by repeat (first | (with_reducible first | exact HB.out | apply below_alloc | apply pw_below_drewN | apply below_drew1 | refine below_set ?_ GE101.out | refine below_set ?_ GE105.out) | exact HB.out))) : w.heap.size ≤ gb114)); have n6_ := Aside0.mk ((by rw [hg]; exact Nat.ne_of_lt (blk_lt (g := gb101) (o := .cells #[.int .i64 a0_0, .int .i64 a0_1, .slice (some ad104) l0_2.length c0_2] 30 (0, 0)) (by (with_reducible repeat (first | refine blk_drewN ?_ _ | refine blk_drew ?_ | refine blk_alloc ?_ _)); exact BK101.out)) : gb101 ≠ gb114)); have n7_ := Aside0.mk ((by rw [hg]; exact Nat.ne_of_gt (blk_lt (g := gb101) (o := .cells #[.int .i64 a0_0, .int .i64 a0_1, .slice (some ad104) l0_2.length c0_2] 30 (0, 0)) (by (with_reducible repeat (first | refine blk_drewN ?_ _ | refine blk_drew ?_ | refine blk_alloc ?_ _)); exact BK101.out)) : gb114 ≠ gb101)); have n8_ := Aside0.mk ((by rw [hg]; exact Nat.ne_of_lt (blk_lt (g := gb105) (o := .cells #[.int .i64 ((rd_T44 l0_2 x28_2).f0), .slice A104_1 ((rd_T44 l0_2 x28_2).f1).length c104_1] 44 (0, 0)) (by (with_reducible repeat (first | refine blk_drewN ?_ _ | refine blk_drew ?_ | refine blk_alloc ?_ _)); exact BK105.out)) : gb105 ≠ gb114)); have n9_ := Aside0.mk ((by rw [hg]; exact Nat.ne_of_gt (blk_lt (g := gb105) (o := .cells #[.int .i64 ((rd_T44 l0_2 x28_2).f0), .slice A104_1 ((rd_T44 l0_2 x28_2).f1).length c104_1] 44 (0, 0)) (by (with_reducible repeat (first | refine blk_drewN ?_ _ | refine blk_drew ?_ | refine blk_alloc ?_ _)); exact BK105.out)) : gb114 ≠ gb105)); clear BK101; clear BK105; clear HB; have BK101 := n0_; have BK105 := n1_; have HB := n2_; have BK114 := n3_; have GW114 := n4_; have GE114 := n5_; have NB101_114 := n6_; have NB114_101 := n7_; have NB105_114 := n8_; have NB114_105 := n9_; clear n0_ n1_ n2_ n3_ n4_ n5_ n6_ n7_ n8_ n9_; clear hb hbox hg; have hnb53 := NB114_101.out; have hnc53 := NB101_114.out; have hnb54 := NB114_105.out; have hnc54 := NB105_114.out; have hcz55_0 : w52.cell? ⟨gb114, 0, none⟩ = some (.int .i64 0) := (blk_cell BK114.out 0).trans rfl; have hcz55_1 : w52.cell? ⟨gb114, 1, none⟩ = some (.slice none 0 0) := (blk_cell BK114.out 1).trans rfl; have hfz55_0 := blk_frozen BK114.out 0; have hfz55_1 := blk_frozen BK114.out 1; have hnb56 := NB105_101.out; have hnc56 := NB101_105.out; have hcz57_0 : w52.cell? ⟨gb105, 0, none⟩ = some (.int .i64 ((rd_T44 l0_2 x28_2).f0)) := (blk_cell BK105.out 0).trans rfl; have hcz57_1 : w52.cell? ⟨gb105, 1, none⟩ = some (.slice A104_1 ((rd_T44 l0_2 x28_2).f1).length c104_1) := (blk_cell BK105.out 1).trans rfl; have hfz57_0 := blk_frozen BK105.out 0; have hfz57_1 := blk_frozen BK105.out 1) | ((with_reducible refine gate_callee (f := 19) rfl ?_); refine goesL_ (some 69) rfl rfl Tryd.func19 (by kernel_rfl) rfl #[.agg #[.int .i64 ((rd_T44 l0_2 x28_2).f0), .slice A104_1 ((rd_T44 l0_2 x28_2).f1).length c104_1], .agg #[.int .i64 ((rd_T44 y109 x63_5).f0), .slice A113_1 ((rd_T44 y109 x63_5).f1).length c113_1]] rfl (by (try simp only [List.map_toArray, List.map_cons, List.map_nil]); first | done | rfl | (simp only [List.length_drop, List.length_take]; rfl)) ?_; (with_reducible refine (spec_l1SameRule.calls k5 ((rd_T44 l0_2 x28_2).f0) _ _ ((rd_T44 l0_2 x28_2).f1) ((rd_T44 y109 x63_5).f0) _ _ ((rd_T44 y109 x63_5).f1) true _ ?side1 ?side2 ?side3 ?side4 A50.out).mono ?_); (case side1 => exact Kd.C_below HR104_1.out (by repeat (first | (with_reducible first | exact HB.out | apply below_alloc | apply pw_below_drewN | apply below_drew1 | refine below_set ?_ GE101.out | refine below_set ?_ GE105.out | refine below_set ?_ GE114.out) | exact HB.out))); (case side2 => exact HC104_1.out); (case side3 => exact Kd.C_below HR113_1.out (by repeat (first | (with_reducible first | exact HB.out | apply below_alloc | apply pw_below_drewN | apply below_drew1 | refine below_set ?_ GE101.out | refine below_set ?_ GE105.out | refine below_set ?_ GE114.out) | exact HB.out))); (case side4 => exact HC113_1.out); rintro e w58 ⟨rfl, hb⟩; refine ⟨_, rfl, ?_⟩; have n0_ := Aside0.mk (blk_below (g := gb101) (o := .cells #[.int .i64 a0_0, .int .i64 a0_1, .slice (some ad104) l0_2.length c0_2] 30 (0, 0)) (by (with_reducible repeat (first | refine blk_drewN ?_ _ | refine blk_drew ?_ | refine blk_alloc ?_ _)); refine blk_far ?_ NB101_114.out _; (with_reducible repeat (first | refine blk_drewN ?_ _ | refine blk_drew ?_ | refine blk_alloc ?_ _)); refine blk_far ?_ NB101_114.out _; (with_reducible repeat (first | refine blk_drewN ?_ _ | refine blk_drew ?_ | refine blk_alloc ?_ _)); exact BK101.out) hb); have n1_ := Aside0.mk (blk_below (g := gb105) (o := .cells #[.int .i64 ((rd_T44 l0_2 x28_2).f0), .slice A104_1 ((rd_T44 l0_2 x28_2).f1).length c104_1] 44 (0, 0)) (by (with_reducible repeat (first | refine blk_drewN ?_ _ | refine blk_drew ?_ | refine blk_alloc ?_ _)); refine blk_far ?_ NB105_114.out _; (with_reducible repeat (first | refine blk_drewN ?_ _ | refine blk_drew ?_ | refine blk_alloc ?_ _)); refine blk_far ?_ NB105_114.out _; (with_reducible repeat (first | refine blk_drewN ?_ _ | refine blk_drew ?_ | refine blk_alloc ?_ _)); exact BK105.out) hb); have n2_ := Aside0.mk (blk_below (g := gb114) (o := .cells #[.int .i64 ((rd_T44 y109 x63_5).f0), .slice A113_1 ((rd_T44 y109 x63_5).f1).length c113_1] 44 (0, 0)) (by (with_reducible repeat (first | refine blk_drewN ?_ _ | refine blk_drew ?_ | refine blk_alloc ?_ _)); refine blk_put (cs := #[.int .i64 ((rd_T44 y109 x63_5).f0), .slice none 0 0]) ?_ 1 _ rfl; (with_reducible repeat (first | refine blk_drewN ?_ _ | refine blk_drew ?_ | refine blk_alloc ?_ _)); refine blk_put (cs := #[.int .i64 0, .slice none 0 0]) ?_ 0 _ rfl; (with_reducible repeat (first | refine blk_drewN ?_ _ | refine blk_drew ?_ | refine blk_alloc ?_ _)); exact BK114.out) hb); have n3_ := Aside0.mk (below_step (by repeat (first | (with_reducible first | exact HB.out | apply below_alloc | apply pw_below_drewN | apply below_drew1 | refine below_set ?_ GE101.out | refine below_set ?_ GE105.out | refine below_set ?_ GE114.out) | exact HB.out)) hb); clear BK101; clear BK105; clear BK114; clear HB; have BK101 := n0_; have BK105 := n1_; have BK114 := n2_; have HB := n3_; clear n0_ n1_ n2_ n3_; (try clear hb); (try clear hb2); (try clear hk); (try clear hi)))
                                              go_ret
                                              exact ⟨by first | rfl | (simp [errW_none, errW_some] <;> rfl) | (simp [*, errW_none, errW_some] <;> rfl), by repeat (first | (with_reducible first | exact HB.out | apply below_alloc | apply pw_below_drewN | apply below_drew1 | refine below_set ?_ GE101.out | refine below_set ?_ GE105.out | refine below_set ?_ GE114.out) | exact HB.out)⟩
                                            · replace c51 := Bool.eq_false_iff.mpr c51
                                              subst c51
                                              have H1 : (spec_GoodGrammar.l2 k5 l0_2 (l0_2.length : Int) x28_2 y109 (y109.length : Int) (wrap64 (x63_5 + 1)) a0_0 a0_1 l0_2 ((rd_T44 l0_2 x28_2).f0) ((rd_T44 l0_2 x28_2).f1)) = some r := by rw [if_neg (show ¬ (false = true) by decide)] at H; exact H
                                              clear H
                                              have H := H1
                                              clear H1
                                              have H' := Aside0.mk H
                                              clear H
                                              have p113 : 0 ≤ (x63_5 : Int) := of_decide_eq_true (by first | (with_reducible assumption) | assumption)
                                              have q113 : x63_5 < (y109.length : Int) := of_decide_eq_true (by first | (with_reducible assumption) | assumption)
                                              obtain ⟨ad113, A113_1, c113_1, e113, hx113_0, hx113_1, hl113_1, hi113_1⟩ := at_T44 HR112.out x63_5 p113 q113
                                              obtain rfl : ad104 = ad113 := (by injection e113)
                                              replace hx113_0 := (HB.out.cell (World.block_lt_of_cell? w _ hx113_0)).trans hx113_0
                                              replace hx113_1 := (HB.out.cell (World.block_lt_of_cell? w _ hx113_1)).trans hx113_1
                                              have HR113_1 := Aside0.mk hi113_1
                                              have HC113_1 := Aside0.mk hl113_1
                                              clear hi113_1 hl113_1
                                              replace p113 := eq_true p113
                                              replace q113 := eq_true q113
                                              go_wp2_with (first | ((with_reducible refine gate_dst (N := 8) rfl ?_); (try (refine gate_guard (by rfl) ?_; dsimp only)); refine box_event ?hg (N := 8) ?hd (cs := #[.int .i64 0, .slice none 0 0]) (t := 44) ?hr ?_; (case hd => rfl); (case hg => rfl); (case hr => first | (go_simp; done) | (go_simp; rfl)); intro gb114 hg w59 hbox hb; have n0_ := Aside0.mk (blk_below (g := gb101) (o := .cells #[.int .i64 a0_0, .int .i64 a0_1, .slice (some ad104) l0_2.length c0_2] 30 (0, 0)) (by (with_reducible repeat (first | refine blk_drewN ?_ _ | refine blk_drew ?_ | refine blk_alloc ?_ _)); exact BK101.out) hb); have n1_ := Aside0.mk (blk_below (g := gb105) (o := .cells #[.int .i64 ((rd_T44 l0_2 x28_2).f0), .slice A104_1 ((rd_T44 l0_2 x28_2).f1).length c104_1] 44 (0, 0)) (by (with_reducible repeat (first | refine blk_drewN ?_ _ | refine blk_drew ?_ | refine blk_alloc ?_ _)); exact BK105.out) hb); have n2_ := Aside0.mk (below_step (by repeat (first | (with_reducible first | exact HB.out | apply below_alloc | apply pw_below_drewN | apply below_drew1 | refine below_set ?_ GE101.out | refine below_set ?_ GE105.out) | exact HB.out)) hb); have n3_ := Aside0.mk (hbox); have n4_ := Aside0.mk ((by rw [hg]; exact (below_size (by repeat (first | (with_reducible first | exact HB.out | apply below_alloc | apply pw_below_drewN | apply below_drew1 | refine below_set ?_ GE101.out | refine below_set ?_ GE105.out) | exact HB.out))) : w.heap.size ≤ gb114)); have n5_ := Aside0.mk ((by rw [hg]; exact (below_size (by repeat (first | (with_reducible first | exact HB.out | apply below_alloc | apply pw_below_drewN | apply below_drew1 | refine below_set ?_ GE101.out | refine below_set ?_ GE105.out) | exact HB.out))) : w.heap.size ≤ gb114)); have n6_ := Aside0.mk ((by rw [hg]; exact Nat.ne_of_lt (blk_lt (g := gb101) (o := .cells #[.int .i64 a0_0, .int .i64 a0_1, .slice (some ad104) l0_2.length c0_2] 30 (0, 0)) (by (with_reducible repeat (first | refine blk_drewN ?_ _ | refine blk_drew ?_ | refine blk_alloc ?_ _)); exact BK101.out)) : gb101 ≠ gb114)); have n7_ := Aside0.mk ((by rw [hg]; exact Nat.ne_of_gt (blk_lt (g := gb101) (o := .cells #[.int .i64 a0_0, .int .i64 a0_1, .slice (some ad104) l0_2.length c0_2] 30 (0, 0)) (by (with_reducible repeat (first | refine blk_drewN ?_ _ | refine blk_drew ?_ | refine blk_alloc ?_ _)); exact BK101.out)) : gb114 ≠ gb101)); have n8_ := Aside0.mk ((by rw [hg]; exact Nat.ne_of_lt (blk_lt (g := gb105) (o := .cells #[.int .i64 ((rd_T44 l0_2 x28_2).f0), .slice A104_1 ((rd_T44 l0_2 x28_2).f1).length c104_1] 44 (0, 0)) (by (with_reducible repeat (first | refine blk_drewN ?_ _ | refine blk_drew ?_ | refine blk_alloc ?_ _)); exact BK105.out)) : gb105 ≠ gb114)); have n9_ := Aside0.mk ((by rw [hg]; exact Nat.ne_of_gt (blk_lt (g := gb105) (o := .cells #[.int .i64 ((rd_T44 l0_2 x28_2).f0), .slice A104_1 ((rd_T44 l0_2 x28_2).f1).length c104_1] 44 (0, 0)) (by (with_reducible repeat (first | refine blk_drewN ?_ _ | refine blk_drew ?_ | refine blk_alloc ?_ _)); exact BK105.out)) : gb114 ≠ gb105)); clear BK101; clear BK105; clear HB; have BK101 := n0_; have BK105 := n1_; have HB := n2_; have BK114 := n3_; have GW114 := n4_; have GE114 := n5_; have NB101_114 := n6_; have NB114_101 := n7_; have NB105_114 := n8_; have NB114_105 := n9_; clear n0_ n1_ n2_ n3_ n4_ n5_ n6_ n7_ n8_ n9_; clear hb hbox hg; have hnb60 := NB114_101.out; have hnc60 := NB101_114.out; have hnb61 := NB114_105.out; have hnc61 := NB105_114.out; have hcz62_0 : w59.cell? ⟨gb114, 0, none⟩ = some (.int .i64 0) := (blk_cell BK114.out 0).trans rfl; have hcz62_1 : w59.cell? ⟨gb114, 1, none⟩ = some (.slice none 0 0) := (blk_cell BK114.out 1).trans rfl; have hfz62_0 := blk_frozen BK114.out 0; have hfz62_1 := blk_frozen BK114.out 1; have hnb63 := NB105_101.out; have hnc63 := NB101_105.out; have hcz64_0 : w59.cell? ⟨gb105, 0, none⟩ = some (.int .i64 ((rd_T44 l0_2 x28_2).f0)) := (blk_cell BK105.out 0).trans rfl; have hcz64_1 : w59.cell? ⟨gb105, 1, none⟩ = some (.slice A104_1 ((rd_T44 l0_2 x28_2).f1).length c104_1) := (blk_cell BK105.out 1).trans rfl; have hfz64_0 := blk_frozen BK105.out 0; have hfz64_1 := blk_frozen BK105.out 1) | ((with_reducible refine gate_callee (f := 19) rfl ?_); refine goesL_ (some 69) rfl rfl Tryd.func19 (by kernel_rfl) rfl #[.agg #[.int .i64 ((rd_T44 l0_2 x28_2).f0), .slice A104_1 ((rd_T44 l0_2 x28_2).f1).length c104_1], .agg #[.int .i64 ((rd_T44 y109 x63_5).f0), .slice A113_1 ((rd_T44 y109 x63_5).f1).length c113_1]] rfl (by (try simp only [List.map_toArray, List.map_cons, List.map_nil]); first | done | rfl | (simp only [List.length_drop, List.length_take]; rfl)) ?_; (with_reducible refine (spec_l1SameRule.calls k5 ((rd_T44 l0_2 x28_2).f0) _ _ ((rd_T44 l0_2 x28_2).f1) ((rd_T44 y109 x63_5).f0) _ _ ((rd_T44 y109 x63_5).f1) false _ ?side1 ?side2 ?side3 ?side4 A50.out).mono ?_); (case side1 => exact Kd.C_below HR104_1.out (by repeat (first | (with_reducible first | exact HB.out | apply below_alloc | apply pw_below_drewN | apply below_drew1 | refine below_set ?_ GE101.out | refine below_set ?_ GE105.out | refine below_set ?_ GE114.out) | exact HB.out))); (case side2 => exact HC104_1.out); (case side3 => exact Kd.C_below HR113_1.out (by repeat (first | (with_reducible first | exact HB.out | apply below_alloc | apply pw_below_drewN | apply below_drew1 | refine below_set ?_ GE101.out | refine below_set ?_ GE105.out | refine below_set ?_ GE114.out) | exact HB.out))); (case side4 => exact HC113_1.out); rintro e w65 ⟨rfl, hb⟩; refine ⟨_, rfl, ?_⟩; have n0_ := Aside0.mk (blk_below (g := gb101) (o := .cells #[.int .i64 a0_0, .int .i64 a0_1, .slice (some ad104) l0_2.length c0_2] 30 (0, 0)) (by (with_reducible repeat (first | refine blk_drewN ?_ _ | refine blk_drew ?_ | refine blk_alloc ?_ _)); refine blk_far ?_ NB101_114.out _; (with_reducible repeat (first | refine blk_drewN ?_ _ | refine blk_drew ?_ | refine blk_alloc ?_ _)); refine blk_far ?_ NB101_114.out _; (with_reducible repeat (first | refine blk_drewN ?_ _ | refine blk_drew ?_ | refine blk_alloc ?_ _)); exact BK101.out) hb); have n1_ := Aside0.mk (blk_below (g := gb105) (o := .cells #[.int .i64 ((rd_T44 l0_2 x28_2).f0), .slice A104_1 ((rd_T44 l0_2 x28_2).f1).length c104_1] 44 (0, 0)) (by (with_reducible repeat (first | refine blk_drewN ?_ _ | refine blk_drew ?_ | refine blk_alloc ?_ _)); refine blk_far ?_ NB105_114.out _; (with_reducible repeat (first | refine blk_drewN ?_ _ | refine blk_drew ?_ | refine blk_alloc ?_ _)); refine blk_far ?_ NB105_114.out _; (with_reducible repeat (first | refine blk_drewN ?_ _ | refine blk_drew ?_ | refine blk_alloc ?_ _)); exact BK105.out) hb); have n2_ := Aside0.mk (blk_below (g := gb114) (o := .cells #[.int .i64 ((rd_T44 y109 x63_5).f0), .slice A113_1 ((rd_T44 y109 x63_5).f1).length c113_1] 44 (0, 0)) (by (with_reducible repeat (first | refine blk_drewN ?_ _ | refine blk_drew ?_ | refine blk_alloc ?_ _)); refine blk_put (cs := #[.int .i64 ((rd_T44 y109 x63_5).f0), .slice none 0 0]) ?_ 1 _ rfl; (with_reducible repeat (first | refine blk_drewN ?_ _ | refine blk_drew ?_ | refine blk_alloc ?_ _)); refine blk_put (cs := #[.int .i64 0, .slice none 0 0]) ?_ 0 _ rfl; (with_reducible repeat (first | refine blk_drewN ?_ _ | refine blk_drew ?_ | refine blk_alloc ?_ _)); exact BK114.out) hb); have n3_ := Aside0.mk (below_step (by repeat (first | (with_reducible first | exact HB.out | apply below_alloc | apply pw_below_drewN | apply below_drew1 | refine below_set ?_ GE101.out | refine below_set ?_ GE105.out | refine below_set ?_ GE114.out) | exact HB.out)) hb); clear BK101; clear BK105; clear BK114; clear HB; have BK101 := n0_; have BK105 := n1_; have BK114 := n2_; have HB := n3_; clear n0_ n1_ n2_ n3_; (try clear hb); (try clear hb2); (try clear hk); (try clear hi)))
                                              go_roundg k5
                                              case measure => have := HJ1.out; have := HK2.out; have := HJ15.out; have := HK4.out; have := HK5.out; omega
                                              case rel => exact ⟨(wrap64 (x63_5 + 1)), (by first | rfl | (simp; done) | (simp [*]; done)), H', ⟨by have := HJ1.out; have := HK2.out; have := HJ15.out; have := HK4.out; have := HK5.out; omega⟩, ⟨by (with_reducible repeat (first | refine blk_drewN ?_ _ | refine blk_drew ?_ | refine blk_alloc ?_ _)); exact BK101.out⟩, ⟨by (with_reducible repeat (first | refine blk_drewN ?_ _ | refine blk_drew ?_ | refine blk_alloc ?_ _)); exact BK105.out⟩, ⟨by repeat (first | (with_reducible first | exact HB.out | apply below_alloc | apply pw_below_drewN | apply below_drew1 | refine below_set ?_ GE101.out | refine below_set ?_ GE105.out | refine below_set ?_ GE114.out) | exact HB.out)⟩⟩
                                          · rw [if_neg c49] at H
                                            exact absurd H (by simp)
                                        · rw [if_neg c48] at H
                                          exact absurd H (by simp)
                                      · rw [if_neg c47] at H
                                        have c47b0 : decide (x63_5 < (y109.length : Int)) = false := decide_eq_false c47
                                        clear c47
                                        have H' := Aside0.mk H
                                        clear H
                                        go_wp2
                                        go_roundg k5
                                        case measure => have := HJ1.out; have := HK2.out; have := HJ15.out; have := HK4.out; have := HK5.out; omega
                                        case rel => exact ⟨(wrap64 (x28_2 + 1)), (by first | rfl | (simp; done) | (simp [*]; done)), H', ⟨by have := HJ1.out; have := HK2.out; have := HJ15.out; have := HK4.out; have := HK5.out; omega⟩, ⟨by (with_reducible repeat (first | refine blk_drewN ?_ _ | refine blk_drew ?_ | refine blk_alloc ?_ _)); exact BK101.out⟩, ⟨by repeat (first | (with_reducible first | exact HB.out | apply below_alloc | apply pw_below_drewN | apply below_drew1 | refine below_set ?_ GE101.out | refine below_set ?_ GE105.out) | exact HB.out)⟩⟩
                                · rw [if_neg c43] at H
                                  exact absurd H (by simp)
                              · rw [if_neg c42] at H
                                exact absurd H (by simp)
                · rw [if_neg c15] at H
                  exact absurd H (by simp)
              · rw [if_neg c14] at H
                exact absurd H (by simp)
            · rw [if_neg c13] at H
              have c13b0 : decide (x28_2 < (l0_2.length : Int)) = false := decide_eq_false c13
              clear c13
              obtain rfl := Option.some.inj H
              go_wp2
              go_ret
              exact ⟨by first | rfl | (simp [errW_none, errW_some] <;> rfl) | (simp [*, errW_none, errW_some] <;> rfl), by repeat (first | (with_reducible first | exact HB.out | apply below_alloc | apply pw_below_drewN | apply below_drew1 | refine below_set ?_ GE101.out) | exact HB.out)⟩

end Go.Proofs.YtpcbjhfgfmmneaaDoor.P

/-! Pb -/
/- Plain lists: GoodGrammar, GoodWord and SizeOf of the reference answer what those of the program answer. -/
namespace Go.Proofs.YtpcbjhfgfmmneaaDoor.P
open Go.RowKit Go.Proofs.YtpcbjhfgfmmneaaDoorW.PrintWords
set_option linter.unusedVariables false
set_option linter.unusedSimpArgs false

theorem spec_l1In_eq (a b c : Int) : spec_l1In.f a b c = some (decide (b ≤ a ∧ a ≤ c)) := by
  unfold spec_l1In.f
  by_cases h : a ≥ b
  · rw [if_pos h]; congr 2; simp; omega
  · rw [if_neg h]; simp; omega
theorem spec_l1Symbol_eq (a0 a1 : Int) (l : List S44) (x : Int) : spec_l1Symbol.f a0 a1 l x = some (symB a0 a1 x) := by
  unfold spec_l1Symbol.f symB
  rw [spec_l1In_eq]; rfl
theorem l1Same_loop (a b : List Int) (hl : a.length = b.length) (hb : a.length ≤ 9223372036854775807) (d : Nat) : ∀ (k i : Nat), i ≤ a.length → a.length - i = d → d < k →
    spec_l1Same.l0 k a b a.length i = some (decide (a.drop i = b.drop i)) := by
  induction d with
  | zero =>
    intro k i h1 hd hk
    obtain ⟨k, rfl⟩ : ∃ m, k = m + 1 := ⟨k - 1, by omega⟩
    simp only [spec_l1Same.l0]; rw [if_neg (by omega)]
    rw [List.drop_of_length_le (by omega), List.drop_of_length_le (by omega)]; simp
  | succ d ih =>
    intro k i h1 hd hk
    obtain ⟨k, rfl⟩ : ∃ m, k = m + 1 := ⟨k - 1, by omega⟩
    simp only [spec_l1Same.l0]
    rw [if_pos (by omega), if_pos (by omega), if_pos (by omega), if_pos (by omega)]
    have hw : wrap64 ((i : Int) + 1) = ((i + 1 : Nat) : Int) := by unfold wrap64; omega
    have ea : a.drop i = rd a i :: a.drop (i + 1) := getD_drop a i 0 (by omega)
    have eb : b.drop i = rd b i :: b.drop (i + 1) := getD_drop b i 0 (by omega)
    by_cases he : rd a i = rd b i
    · rw [if_pos he, hw, ih k (i + 1) (by omega) (by omega) (by omega), ea, eb, he]
      congr 1; simp
    · rw [if_neg he, ea, eb]; simp [he]
theorem l1Same_eq (a b : List Int) (hb : a.length ≤ 9223372036854775807) : ∀ k, a.length < k → spec_l1Same.f k a b = some (decide (a = b)) := by
  intro k hk
  unfold spec_l1Same.f
  by_cases hl : a.length = b.length
  · rw [if_pos (by omega)]
    have := l1Same_loop a b hl hb a.length k 0 (by omega) (by omega) hk
    simpa using this
  · rw [if_neg (by omega)]
    have : a ≠ b := fun h => hl (by rw [h])
    simp [this]
theorem l1SameRule_eq (a b : S44) (hb : a.f1.length ≤ 9223372036854775807) : ∀ k, a.f1.length < k → spec_l1SameRule.f k a.f0 a.f1 b.f0 b.f1 = some (sameR a b) := by
  intro k hk
  unfold spec_l1SameRule.f sameR
  by_cases h : a.f0 = b.f0
  · rw [if_pos h, l1Same_eq _ _ hb k hk]; simp [h]
  · rw [if_neg h]; simp [h]
theorem sameR_comm (a b : S44) : sameR a b = sameR b a := by
  unfold sameR
  rw [decide_eq_decide]
  constructor <;> rintro ⟨h, h'⟩ <;> exact ⟨h.symm, h'.symm⟩
/-- The loop over the rules ahead of one. -/
theorem good_l2 (l : List S44) (hs : smallI l) (n t : Int) (i : Nat) (hi : i < l.length) (r : Bool) (y : S44) (hy : y.f1.length ≤ 1048576)
    (hnext : Ev (fun k => spec_GoodGrammar.l0 k l l.length (wrap64 (i + 1)) n t l) r) (ys : List S44) (hys : ys.length ≤ 1048576) (d : Nat) :
    ∀ j, j ≤ ys.length → ys.length - j = d → Ev (fun k => spec_GoodGrammar.l2 k l l.length i ys ys.length j n t l y.f0 y.f1) (if (ys.drop j).any (fun o => sameR o y) = true then false else r) := by
  induction d with
  | zero =>
    intro j h1 hd
    obtain ⟨K, hn⟩ := hnext
    try dsimp only at hn
    refine ⟨K + 1, fun k hk => ?_⟩
    try dsimp only
    obtain ⟨k, rfl⟩ : ∃ m, k = m + 1 := ⟨k - 1, by omega⟩
    simp only [spec_GoodGrammar.l2]; rw [if_neg (by omega), List.drop_of_length_le (by omega)]
    simpa using hn k (by omega)
  | succ d ih =>
    intro j h1 hd
    obtain ⟨K, hi⟩ := ih (j + 1) (by omega) (by omega)
    try dsimp only at hi
    refine ⟨K + y.f1.length + 2, fun k hk => ?_⟩
    try dsimp only
    obtain ⟨k, rfl⟩ : ∃ m, k = m + 1 := ⟨k - 1, by omega⟩
    simp only [spec_GoodGrammar.l2]
    rw [if_pos (by omega), if_pos (by omega), if_pos (by omega), l1SameRule_eq y _ (by omega) k (by omega)]
    simp only [Option.bind_some]
    have ea : ys.drop j = rd_T44 ys j :: ys.drop (j + 1) := getD_drop ys j z44 (by omega)
    rw [ea, List.any_cons, sameR_comm]
    cases hq : sameR (rd_T44 ys j) y with
    | true => rfl
    | false =>
      rw [if_neg (by decide), show wrap64 ((j : Int) + 1) = ((j + 1 : Nat) : Int) by unfold wrap64; omega]
      simpa using hi k (by omega)
/-- The loop over a rule's symbols. -/
theorem good_l1 (l : List S44) (hs : smallI l) (n t : Int) (i : Nat) (hi : i < l.length) (r : Bool)
    (hnext : Ev (fun k => spec_GoodGrammar.l0 k l l.length (wrap64 (i + 1)) n t l) r) (d : Nat) :
    ∀ j, j ≤ (rd_T44 l i).f1.length → (rd_T44 l i).f1.length - j = d →
      Ev (fun k => spec_GoodGrammar.l1 k i l l.length i (rd_T44 l i).f1 (rd_T44 l i).f1.length j n t l (rd_T44 l i).f0 (rd_T44 l i).f1)
        (if ((rd_T44 l i).f1.drop j).any (fun x => !symB n t x) = true then false else if (l.take i).any (fun o => sameR o (rd_T44 l i)) = true then false else r) := by
  have hb := hs.2 i hi
  have hb0 := hs.1
  induction d with
  | zero =>
    intro j h1 hd
    obtain ⟨K, hn⟩ := good_l2 l hs n t i hi r (rd_T44 l i) hb hnext (l.take i) (by rw [List.length_take]; omega) (l.take i).length 0 (by omega) (by omega)
    try dsimp only at hn
    refine ⟨K + 1, fun k hk => ?_⟩
    try dsimp only
    obtain ⟨k, rfl⟩ : ∃ m, k = m + 1 := ⟨k - 1, by omega⟩
    simp only [spec_GoodGrammar.l1]; rw [if_neg (by omega), if_pos (by omega), if_pos (by omega), List.drop_of_length_le (by omega)]
    simp only [Option.bind_some, Int.toNat_natCast]
    simpa using hn k (by omega)
  | succ d ih =>
    intro j h1 hd
    obtain ⟨K, hi⟩ := ih (j + 1) (by omega) (by omega)
    try dsimp only at hi
    refine ⟨K + 2, fun k hk => ?_⟩
    try dsimp only
    obtain ⟨k, rfl⟩ : ∃ m, k = m + 1 := ⟨k - 1, by omega⟩
    simp only [spec_GoodGrammar.l1]
    rw [if_pos (by omega), if_pos (by omega), if_pos (by omega), spec_l1Symbol_eq]
    simp only [Option.bind_some]
    have ea : (rd_T44 l i).f1.drop j = rd (rd_T44 l i).f1 j :: (rd_T44 l i).f1.drop (j + 1) := getD_drop _ j 0 (by omega)
    rw [ea, List.any_cons]
    cases hq : symB n t (rd (rd_T44 l i).f1 j) with
    | false => simp
    | true =>
      rw [if_pos rfl, show wrap64 ((j : Int) + 1) = ((j + 1 : Nat) : Int) by unfold wrap64; omega]
      simpa using hi k (by omega)
/-- The last so many rules are good. -/
def goodD (nons toks : Int) (l : List S44) : Nat → Bool
  | 0 => true
  | d + 1 => (okR nons toks (rd_T44 l (l.length - (d + 1) : Nat)) && !((l.take (l.length - (d + 1))).any fun o => sameR o (rd_T44 l (l.length - (d + 1) : Nat)))) && goodD nons toks l d
theorem goodD_rules (n t : Int) (l : List S44) (d : Nat) : ∀ i, i + d = l.length → rulesB n t l l.length = (rulesB n t l i && goodD n t l d) := by
  induction d with
  | zero =>
    intro i h
    rw [show i = l.length by omega]
    simp [goodD]
  | succ d ih =>
    intro i h
    rw [ih (i + 1) (by omega)]
    have e : l.length - (d + 1) = i := by omega
    simp only [goodD, rulesB, e]
    rw [Bool.and_assoc]
theorem good_l0 (l : List S44) (hs : smallI l) (n t : Int) (d : Nat) : ∀ i, i ≤ l.length → l.length - i = d →
    Ev (fun k => spec_GoodGrammar.l0 k l l.length i n t l) (goodD n t l d) := by
  have hb0 := hs.1
  induction d with
  | zero =>
    intro i h1 hd
    refine ⟨1, fun k hk => ?_⟩
    try dsimp only
    obtain ⟨k, rfl⟩ : ∃ m, k = m + 1 := ⟨k - 1, by omega⟩
    obtain rfl : i = l.length := by omega
    simp only [spec_GoodGrammar.l0]; rw [if_neg (by omega)]; rfl
  | succ d ih =>
    intro i h1 hd
    have hb := hs.2 i (by omega)
    have hw : wrap64 ((i : Int) + 1) = ((i + 1 : Nat) : Int) := by unfold wrap64; omega
    have e : l.length - (d + 1) = i := by omega
    have hn := ih (i + 1) (by omega) (by omega)
    obtain ⟨K, h⟩ := good_l1 l hs n t i (by omega) _ (by rw [hw]; exact hn) _ 0 (by omega) rfl
    try dsimp only at h
    refine ⟨K + 2, fun k hk => ?_⟩
    try dsimp only
    obtain ⟨k, rfl⟩ : ∃ m, k = m + 1 + 1 := ⟨k - 2, by omega⟩
    simp only [spec_GoodGrammar.l0, goodD, e]
    rw [if_pos (by omega), if_pos (by omega), if_pos (by omega), spec_l1In_eq]
    simp only [Option.bind_some]
    unfold okR
    by_cases c1 : 0 ≤ (rd_T44 l i).f0 ∧ (rd_T44 l i).f0 ≤ wrap64 (n - 1)
    · rw [decide_eq_true c1, if_pos rfl]
      by_cases c2 : (rd_T44 l i).f1.length ≤ 4
      · rw [decide_eq_false (show ¬ ((rd_T44 l i).f1.length : Int) > 4 by omega), decide_eq_true c2]
        simp only [spec_GoodGrammar.j2]
        rw [if_neg (by decide)]
        have h2 := h k (by omega)
        rw [show ((0 : Nat) : Int) = 0 from rfl, List.drop_zero] at h2
        rw [h2]
        cases (rd_T44 l i).f1.any (fun x => !symB n t x) <;> cases (l.take i).any (fun o => sameR o (rd_T44 l i)) <;> simp
      · rw [decide_eq_true (show ((rd_T44 l i).f1.length : Int) > 4 by omega), decide_eq_false c2]
        simp only [spec_GoodGrammar.j2]
        simp
    · rw [decide_eq_false c1, if_neg (by decide)]
      simp only [spec_GoodGrammar.j2]
      simp
theorem spec_GoodGrammar_ev (n t : Int) (l : List S44) (hs : smallI l) : Ev (fun k => spec_GoodGrammar.f k n t l) (goodG n t l) := by
  obtain ⟨K, h⟩ := good_l0 l hs n t l.length 0 (by omega) (by omega)
  try dsimp only at h
  have hd := goodD_rules n t l l.length 0 (by omega)
  have hb0 := hs.1
  refine ⟨K + 1, fun k hk => ?_⟩
  try dsimp only
  obtain ⟨k, rfl⟩ : ∃ m, k = m + 1 := ⟨k - 1, by omega⟩
  unfold spec_GoodGrammar.f goodG
  rw [spec_l1In_eq]; simp only [Option.bind_some]
  rw [hd]
  by_cases c1 : 1 ≤ n ∧ n ≤ 6
  · rw [decide_eq_true c1, if_pos rfl, spec_l1In_eq]; simp only [Option.bind_some]
    by_cases c2 : 1 ≤ t ∧ t ≤ 4
    · rw [decide_eq_true c2, if_pos rfl]
      by_cases c3 : l.length ≤ 16
      · rw [decide_eq_false (show ¬ (l.length : Int) > 16 by omega), decide_eq_true c3]
        simp only [spec_GoodGrammar.j0]
        rw [if_neg (by decide), show (0 : Int) = ((0 : Nat) : Int) from rfl, h k (by omega)]
        simp [rulesB]
      · rw [decide_eq_true (show (l.length : Int) > 16 by omega), decide_eq_false c3]
        simp only [spec_GoodGrammar.j0]
        simp
    · rw [decide_eq_false c2, if_neg (by decide)]
      simp only [spec_GoodGrammar.j0]
      simp
  · rw [decide_eq_false c1, if_neg (by decide)]
    simp only [spec_GoodGrammar.j0]
    simp
end Go.Proofs.YtpcbjhfgfmmneaaDoor.P

/-! Hl -/
/- letterOf by hand: ten symbols, one by one. -/
namespace Go.Proofs.YtpcbjhfgfmmneaaDoor.P
open Go.RowKit Go.Proofs.YtpcbjhfgfmmneaaDoorW.PrintWords
set_option linter.unusedVariables false
set_option linter.unusedSimpArgs false
def impl_letterOf.f (a0 : Int) : Option ByteArray :=
  if a0 = 0 then some ⟨#[83]⟩ else if a0 = 1 then some ⟨#[65]⟩ else if a0 = 2 then some ⟨#[66]⟩ else if a0 = 3 then some ⟨#[67]⟩ else if a0 = 4 then some ⟨#[68]⟩ else if a0 = 5 then some ⟨#[69]⟩
  else if a0 = -1 then some ⟨#[97]⟩ else if a0 = -2 then some ⟨#[98]⟩ else if a0 = -3 then some ⟨#[99]⟩ else if a0 = -4 then some ⟨#[100]⟩ else none
set_option maxHeartbeats 4000000 in
set_option maxRecDepth 100000 in
theorem impl_letterOf.calls (a0 : Int) (r : ByteArray) (w : World) (h : impl_letterOf.f a0 = some r) :
    Calls Tryd.prog 29 #[.int .i64 a0] w fun e w' => e = .returned (.string r) ∧ Drawn0 w w' := by
  unfold impl_letterOf.f at h
  split at h
  · obtain rfl := Option.some.inj h
    rename_i e; subst e
    go_enter Tryd.func29, Tryd.ntmps29
    go_wp2
    go_ret
    exact ⟨rfl, Drawn0.refl _⟩
  split at h
  · obtain rfl := Option.some.inj h
    rename_i e; subst e
    go_enter Tryd.func29, Tryd.ntmps29
    go_wp2
    go_ret
    exact ⟨rfl, Drawn0.refl _⟩
  split at h
  · obtain rfl := Option.some.inj h
    rename_i e; subst e
    go_enter Tryd.func29, Tryd.ntmps29
    go_wp2
    go_ret
    exact ⟨rfl, Drawn0.refl _⟩
  split at h
  · obtain rfl := Option.some.inj h
    rename_i e; subst e
    go_enter Tryd.func29, Tryd.ntmps29
    go_wp2
    go_ret
    exact ⟨rfl, Drawn0.refl _⟩
  split at h
  · obtain rfl := Option.some.inj h
    rename_i e; subst e
    go_enter Tryd.func29, Tryd.ntmps29
    go_wp2
    go_ret
    exact ⟨rfl, Drawn0.refl _⟩
  split at h
  · obtain rfl := Option.some.inj h
    rename_i e; subst e
    go_enter Tryd.func29, Tryd.ntmps29
    go_wp2
    go_ret
    exact ⟨rfl, Drawn0.refl _⟩
  split at h
  · obtain rfl := Option.some.inj h
    rename_i e; subst e
    go_enter Tryd.func29, Tryd.ntmps29
    go_wp2
    go_ret
    exact ⟨rfl, Drawn0.refl _⟩
  split at h
  · obtain rfl := Option.some.inj h
    rename_i e; subst e
    go_enter Tryd.func29, Tryd.ntmps29
    go_wp2
    go_ret
    exact ⟨rfl, Drawn0.refl _⟩
  split at h
  · obtain rfl := Option.some.inj h
    rename_i e; subst e
    go_enter Tryd.func29, Tryd.ntmps29
    go_wp2
    go_ret
    exact ⟨rfl, Drawn0.refl _⟩
  split at h
  · obtain rfl := Option.some.inj h
    rename_i e; subst e
    go_enter Tryd.func29, Tryd.ntmps29
    go_wp2
    go_ret
    exact ⟨rfl, Drawn0.refl _⟩
  · exact absurd h (by simp)
end Go.Proofs.YtpcbjhfgfmmneaaDoor.P

