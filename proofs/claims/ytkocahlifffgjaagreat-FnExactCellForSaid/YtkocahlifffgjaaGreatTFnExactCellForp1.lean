/- A part of the proofs of some laws of this seat (words of the print and texts of this session, without what these laws do not use). -/
import Derived.Test.YtkocahlifffgjaaGreatTFnExactCellForp0
import Derived.Test.YtkocahlifffgjaaGreatProg
import Derived.Below
import Derived.Deep.Draws
import Derived.Deep.AppendLies
import Derived.Maps.AppendAt
import Derived.OwnWalk
import Derived.Laws.BytesArg
import Derived.Laws.MakeOwn
import Derived.Laws.OwnMore
import Derived.Deep.OwnRows
import Derived.Tactics
import Derived.Lib.ConvBytes
import Derived.Laws.Slices
import Derived.WalkKit
import Derived.KernelRfl
import Derived.RowKit3
import Derived.Deep.LoopGhost
import Derived.Deep.QuietTactic
import Derived.BigQuiet
import Derived.WideLaws
import Derived.Deep.DeepCutAuto
import Derived.Deep.CutBlock
import Derived.Deep.RegionHeld3
import Derived.Laws.Rows
import Derived.Lib.AppendStr
import Derived.ArgAppend
import Derived.Laws.IdiomCopy
import Derived.OrdersHeld
import Derived.Laws.BitsLemmas
import Derived.RowKit
import Derived.Shelf.Abstract
namespace Go.Proofs.YtkocahlifffgjaaGreatW.PrintMore
open Go.RowKit Go.Proofs.YtkocahlifffgjaaGreatW.PrintWords
namespace Kd
open Go.Proofs.YtkocahlifffgjaaGreatW.PrintWords.Kd
end Kd
namespace Kd
open Go.Proofs.YtkocahlifffgjaaGreatW.PrintWords.Kd
section
variable {α : Type} {d : Kd α} {e base g N : Nat} {ok : Nat → Prop} {W w1 : World} {u v : Value} {xs : List α}
end
end Kd
theorem max2_int (k k' : IntKind) (x y : Int) : Builtin.max2 (.int k x) (.int k' y) = pure (.int k (if x < y then y else x)) := by simp only [Builtin.max2, gt_iff_lt]
theorem min2_int (k k' : IntKind) (x y : Int) : Builtin.min2 (.int k x) (.int k' y) = pure (.int k (if y < x then y else x)) := by simp only [Builtin.min2]
theorem max_two (ats : Array TypeId) (ty : TypeId) (a b : Value) : Builtin.max_ ats ty #[a, b] = (Builtin.max2 a b >>= fun s => pure s) := by simp only [Builtin.max_, List.foldlM_cons, List.foldlM_nil]
theorem min_two (ats : Array TypeId) (ty : TypeId) (a b : Value) : Builtin.min_ ats ty #[a, b] = (Builtin.min2 a b >>= fun s => pure s) := by simp only [Builtin.min_, List.foldlM_cons, List.foldlM_nil]
theorem max_three (ats : Array TypeId) (ty : TypeId) (a b c : Value) : Builtin.max_ ats ty #[a, b, c] = (Builtin.max2 a b >>= fun s => Builtin.max2 s c >>= fun s => pure s) := by simp only [Builtin.max_, List.foldlM_cons, List.foldlM_nil]
theorem min_three (ats : Array TypeId) (ty : TypeId) (a b c : Value) : Builtin.min_ ats ty #[a, b, c] = (Builtin.min2 a b >>= fun s => Builtin.min2 s c >>= fun s => pure s) := by simp only [Builtin.min_, List.foldlM_cons, List.foldlM_nil]
theorem max_four (ats : Array TypeId) (ty : TypeId) (a b c d : Value) : Builtin.max_ ats ty #[a, b, c, d] = (Builtin.max2 a b >>= fun s => Builtin.max2 s c >>= fun s => Builtin.max2 s d >>= fun s => pure s) := by simp only [Builtin.max_, List.foldlM_cons, List.foldlM_nil]
theorem min_four (ats : Array TypeId) (ty : TypeId) (a b c d : Value) : Builtin.min_ ats ty #[a, b, c, d] = (Builtin.min2 a b >>= fun s => Builtin.min2 s c >>= fun s => Builtin.min2 s d >>= fun s => pure s) := by simp only [Builtin.min_, List.foldlM_cons, List.foldlM_nil]
end Go.Proofs.YtkocahlifffgjaaGreatW.PrintMore
namespace Go.Proofs.YtkocahlifffgjaaGreatW.PrintWords
open Go.RowKit
section
variable {P : Program} {ops : Array Oper} {rest : List Oper} {o : Oper} {a : Act} {Q : Exit → Act → World → Prop} {W : World}
theorem gate_callee {f : FuncId} {as_ : Array Operand} {ts : Array TypeId} (_ho : o.op = .call { callee := .value (.func f), args := as_, argTypes := ts }) (h : wpList P ops Q (o :: rest) a W) : wpList P ops Q (o :: rest) a W := h
theorem gate_builtin {b : Builtin} {xs : Array Operand} {ts : Array TypeId} (_ho : o.op = .call { callee := .builtin b, args := xs, argTypes := ts }) (h : wpList P ops Q (o :: rest) a W) : wpList P ops Q (o :: rest) a W := h
end
def mx (a b : Int) : Int := if a < b then b else a
def mn (a b : Int) : Int := if b < a then b else a
def shl (k : IntKind) (x y : Int) : Int := k.wrap (x * 2 ^ min y.toNat k.bits)
def shr (k : IntKind) (x y : Int) : Int := x / 2 ^ min y.toNat k.bits
theorem drewN_self (w : World) (n : Nat) : w.drewN n = w.drewN n := rfl
namespace Kd
section
variable {α : Type} {d : Kd α} {e base : Nat} {ok : Nat → Prop} {W w1 : World} {v : Value} {xs : List α}
end
section
variable {α : Type} {d : Kd α} {e base g n cap : Nat} {ok oki okp : Nat → Prop} {W : World} {xs : List α} {i : Int} {c : List Value}
end
section
variable {α : Type} {d : Kd α} {e base b b' g N : Nat} {ok ok1 : Nat → Prop} {W W2 w1 : World} {u v : Value} {xs ys : List α} {S : Nat → Prop}
theorem Q_tight (hE : d.E = []) (h : d.Q e W base ok v xs) : d.Q e W base (fun k => some k = v.ownBlock) v xs := by
 obtain ⟨h0, inner, ho, hr⟩ := h; refine ⟨fun k hk => hk.symm, inner, ho, hr.imp_ (fun p c hp => d.M_mono (fun k hk => ?_) (d.M_bound hp))⟩; obtain ⟨_, _, _, q, hq, _⟩ := hk; rw [hE] at hq; cases hq
theorem Q_grown2 (h : d.Q e W base ok v xs) (hE : d.E = []) {row : Option Nat} (hg : W.grownBy w1 row) (hne : ∀ k, row = some k → some k ≠ v.ownBlock) : d.Q e w1 base ok v xs :=
 Q_mono (Q_grown (Q_tight hE h) hg (fun k hk e_ => hne k e_.symm hk)) (fun k hk => h.1 k hk.symm)
theorem R_reok (hE : d.E = []) (h : d.R e W base ok1 v xs) (hok : ∀ k, v.ownBlock = some k → ok k) : d.R e W base ok v xs := R_mono (R_tight hE h) (fun k hk => hok k hk.symm)
theorem R_keptB (h : d.R e W base ok v xs) (hk : Kept W W2 S) (hne : ∀ k, ok k → ¬ S k) : d.R e W2 base (fun k => ok k ∧ (¬ S k ∧ k < W.heap.size)) v xs :=
 R_kept (R_mono (R_bound h) (fun k hk => ⟨hk.1, hne k hk.1, hk.2.2.1⟩)) hk (fun _ hk => hk.2.1)
end
end Kd
end Go.Proofs.YtkocahlifffgjaaGreatW.PrintWords
namespace Go.Proofs.YtkocahlifffgjaaGreatW.PrintWords
open Go.RowKit
namespace Kd
def V {α : Type} (d : Kd α) (_e : Nat) (W : World) (_base : Nat) (ok : Nat → Prop) (v : Value) (xs : List α) : Prop := ∃ A c, v = .slice A xs.length c ∧ xs.length ≤ c ∧ F d W ok A xs.length xs
section
variable {α β : Type} {d : Kd α} {e base base' n m c g N' lo hi : Nat} {ok ok' S : Nat → Prop} {w W w1 : World} {A : Option Addr} {ad : Addr} {u v v1 : Value} {xs : List α}
theorem V_map (h : V d e W base ok v xs) (hF : ∀ A, F d W ok A xs.length xs → F d w1 ok' A xs.length xs) : V d e w1 base' ok' v xs := by
 obtain ⟨A, c, hv, hl, hf⟩ := h; exact ⟨A, c, hv, hl, hF A hf⟩
theorem V_mk (hl : xs.length ≤ c) (hf : F d W ok A xs.length xs) : V d e W base ok (.slice A xs.length c) xs := ⟨A, c, rfl, hl, hf⟩
theorem V_slice (h : V d e W base ok v xs) : ∃ A c, v = .slice A xs.length c := by
 obtain ⟨A, c, hv, _⟩ := h; exact ⟨A, c, hv⟩
theorem V_at (h : V d e W base ok (.slice A n c) xs) : n = xs.length ∧ n ≤ c ∧ F d W ok A xs.length xs := by
 obtain ⟨A', c', hv, hl, hf⟩ := h; injection hv with ha hn hc; subst ha; subst hc; exact ⟨hn, by rw [hn]; exact hl, hf⟩
theorem V_reads' (h : V d e W base ok (.slice A n c) xs) : n = xs.length ∧ n ≤ c ∧ d.C W A xs.length xs := ⟨(V_at h).1, (V_at h).2.1, F_now (V_at h).2.2⟩
theorem V_F (h : V d e W base ok (.slice A n c) xs) : F d W ok A n xs := by
 obtain ⟨hn, _, hf⟩ := V_at h; rw [hn]; exact hf
theorem V_nil (d : Kd α) (e : Nat) (W : World) (base : Nat) (ok : Nat → Prop) : V d e W base ok (.slice none 0 0) [] := ⟨none, 0, rfl, Nat.le_refl _, F_nil d W ok⟩
theorem R_V (h : d.R e W base ok v xs) : V d e W base' ok v xs := by
 obtain ⟨A, c, rfl⟩ := R_slice h; exact ⟨A, c, rfl, (R_reads' h).2.1, R_F h⟩
theorem S_V (h : Kd.S d e W base ok v xs) : V d e W base' ok v xs := R_V (S_R h)
theorem N_V (h : N d e W base ok v xs) : V d e W base' ok v xs := by
 obtain ⟨A, c, rfl⟩ := N_slice h; exact ⟨A, c, rfl, (N_reads' h).2.1, N_F h⟩
theorem V_mono (h : V d e W base ok v xs) (hok : ∀ k, ok k → ok' k) : V d e W base ok' v xs := V_map h (fun _ hf => F_mono hf hok)
theorem V_lower (h : V d e W base ok v xs) (_ : base' ≤ base) : V d e W base' ok v xs := h
theorem V_below (h : V d e W base ok v xs) (hb : Below W.heap.size W w1) : V d e w1 base ok v xs := V_map h (fun _ hf => F_below hf hb)
theorem V_alloc (h : V d e W base ok v xs) (o : Obj) : V d e (W.alloc o) base ok v xs := V_map h (fun _ hf => F_alloc hf o)
theorem V_drew (h : V d e W base ok v xs) : V d e W.drew base ok v xs := V_map h (fun _ hf => F_drew hf)
theorem V_drewN (h : V d e W base ok v xs) (m : Nat) : V d e (W.drewN m) base ok v xs := V_map h (fun _ hf => F_drewN hf m)
theorem V_after (h : V d e W base (fun k => ok k ∧ some k ≠ u.ownBlock) v xs) (hg : W.grownBy w1 u.ownBlock) (hat : v1.ownBlock = u.ownBlock ∨ ∃ b, v1.ownBlock = some b ∧ W.heap.size ≤ b) : V d e w1 base (fun k => ok k ∧ some k ≠ v1.ownBlock) v xs := V_map h (fun _ hf => F_after hf hg hat)
theorem V_afterv (h : V d e W base (fun k => ok k ∧ some k ≠ v.ownBlock) u xs) (hg : W.grownBy w1 v.ownBlock) (hat : v1.ownBlock = v.ownBlock ∨ ∃ b, v1.ownBlock = some b ∧ W.heap.size ≤ b) : V d e w1 base (fun k => ok k ∧ some k ≠ v1.ownBlock) u xs := V_after h hg hat
theorem N_afterv (h : N d e W base (fun k => ok k ∧ some k ≠ v.ownBlock) u xs) (hg : W.grownBy w1 v.ownBlock) (hat : v1.ownBlock = v.ownBlock ∨ ∃ b, v1.ownBlock = some b ∧ W.heap.size ≤ b) : N d e w1 base (fun k => ok k ∧ some k ≠ v1.ownBlock) u xs := N_after h hg hat
theorem V_elder' (h : V d e W base ok v xs) (hbase : ∀ k, u.ownBlock = some k → W.heap.size ≤ k) (hb : Below W.heap.size W w1) : V d e w1 base (fun k => ok k ∧ some k ≠ u.ownBlock) v xs := V_map h (fun _ hf => F_elder' hf hbase hb)
theorem V_get (h : V d e W base ok (.slice (some ad) n c) xs) (z : α) (i : Int) (h0 : 0 ≤ i) (h1 : i < n) :
 ∃ cs, cs.length = d.sz ∧ FK d W ok (xs.getD i.toNat z) cs ∧ ∀ j u, cs[j]? = some u → W.cell? (ad.add (i.toNat * d.sz + j)) = some u := by
 obtain ⟨ad', cs, he, hcl, hK, hcc, _⟩ := F_get (V_F h) z i h0 h1; injection he with he; subst he; exact ⟨cs, hcl, hK, hcc⟩
theorem F_take (h : F d W ok A xs.length xs) (hm : m ≤ xs.length) : F d W ok A (xs.take m).length (xs.take m) := F_imp h (fun _ hC => C_take hC hm)
theorem F_cut (h : F d W ok A xs.length xs) (hm : m ≤ xs.length) (hc : xs.length ≤ c) : F d W ok (if c = m then A else A.map (·.add (m * d.sz))) (xs.drop m).length (xs.drop m) := F_imp h (fun _ hC => C_drop hC hm hc)
theorem FK_slice_open {l : List α} {cs : List Value} (h : FK (Kd.slice e d) W ok l cs) : ∃ A c, cs = [.slice A l.length c] ∧ l.length ≤ c ∧ F d W ok A l.length l := by
 obtain ⟨A, c, rfl, hl, _⟩ := FK_now h; refine ⟨A, c, rfl, hl, fun W' hW => ?_⟩; obtain ⟨A', c', he, _, g'⟩ := h W' hW; injection he with he _; injection he with ha _ _; rw [ha]; exact g'
theorem FK_slice_mk {l : List α} (hl : l.length ≤ c) (hf : F d W ok A l.length l) : FK (Kd.slice e d) W ok l [.slice A l.length c] := fun W' hW => ⟨A, c, rfl, hl, hf W' hW⟩
theorem R_newM {M : Nat → Prop} (h : d.R e w1 W.heap.size ok v xs) (hle : w.heap.size ≤ W.heap.size) (hM : ∀ k, w.heap.size ≤ k → M k) : d.R e w1 W.heap.size (fun k => M k ∧ ok k) v xs := R_mono (R_bound h) (fun k hk => ⟨hM k (Nat.le_trans hle hk.2.1), hk.1⟩)
end
end Kd
end Go.Proofs.YtkocahlifffgjaaGreatW.PrintWords
namespace Go.Proofs.YtkocahlifffgjaaGreat.P
open Go.RowKit Go.Proofs.YtkocahlifffgjaaGreatW.PrintWords Go.Proofs.YtkocahlifffgjaaGreatW.PrintLast Go.Proofs.YtkocahlifffgjaaGreatW.PrintMore
attribute [local go_sem] max2_int min2_int max_two min_two max_three min_three max_four min_four
set_option linter.unusedVariables false
set_option linter.unusedSimpArgs false
def errW : Option Int → Value
 | none => .nilIface
 | some c => .iface 0 (.int .i64 c)
theorem errW_none : errW none = .nilIface := rfl
theorem errW_some (c : Int) : errW (some c) = .iface 0 (.int .i64 c) := rfl
theorem info3 : (Tryz.prog.info? 3).map (fun i => (i.zero, i.size, i.bytes)) = some (some (.int .i64 0), 1, 8) := by kernel_rfl
theorem info23 : (Tryz.prog.info? 23).map (fun i => (i.zero, i.size, i.bytes)) = some (some (.slice none 0 0), 1, 24) := by kernel_rfl
def rd_L1 (xs : List (List Int)) (i : Int) : (List Int) := xs.getD i.toNat ([] : List Int)
theorem at_L1 {w : World} {A : Option Addr} {n : Nat} {xs : List (List Int)} (h : Kd.C (Kd.slice 3 (Kd.int .i64)) w A n xs) (i : Int) (h0 : 0 ≤ i) (h1 : i < n) : ∃ ad A0 c0, A = some ad ∧ w.cell? (ad.add i.toNat) = some (.slice A0 (rd_L1 xs i).length c0) ∧ (rd_L1 xs i).length ≤ c0 ∧ (Kd.int .i64).C w A0 (rd_L1 xs i).length (rd_L1 xs i) := by
 obtain ⟨ad, c, e, _, hK, hc0⟩ := Kd.C_get h ([] : List Int) i h0 h1; have hc : ∀ j u, c[j]? = some u → w.cell? (ad.add (i.toNat * 1 + j)) = some u := hc0; obtain ⟨A0, c0, rfl, l0, g0⟩ := hK; exact ⟨ad, A0, c0, e, by have hq := hc 0 _ rfl; rwa [Nat.mul_one, Nat.add_zero] at hq, l0, g0⟩
def rd_L2 (xs : List (List (List Int))) (i : Int) : (List (List Int)) := xs.getD i.toNat ([] : List (List Int))
structure S32 where
 f0 : Int
 f1 : Int
 f2 : (List (List Int))
 f3 : (List (List Int))
 f4 : (List Int)
 f5 : (List (List Int))
def z32 : S32 := ⟨(0 : Int), (0 : Int), ([] : List (List Int)), ([] : List (List Int)), ([] : List Int), ([] : List (List Int))⟩
def k32 : Kd S32 := Kd.iso (Kd.pair (Kd.int .i64) (Kd.pair (Kd.int .i64) (Kd.pair (Kd.slice 23 (Kd.slice 3 (Kd.int .i64))) (Kd.pair (Kd.slice 23 (Kd.slice 3 (Kd.int .i64))) (Kd.pair (Kd.slice 3 (Kd.int .i64)) (Kd.slice 23 (Kd.slice 3 (Kd.int .i64)))))))) (fun x : S32 => (x.f0, x.f1, x.f2, x.f3, x.f4, x.f5))
def rd_T32 (xs : List S32) (i : Int) : S32 := xs.getD i.toNat z32
structure S34 where
 f0 : Int
 f1 : (List (List Int))
def z34 : S34 := ⟨(0 : Int), ([] : List (List Int))⟩
def k34 : Kd S34 := Kd.iso (Kd.pair (Kd.int .i64) (Kd.slice 23 (Kd.slice 3 (Kd.int .i64)))) (fun x : S34 => (x.f0, x.f1))
def rd_T34 (xs : List S34) (i : Int) : S34 := xs.getD i.toNat z34
def rd_L6 (xs : List (List Bool)) (i : Int) : (List Bool) := xs.getD i.toNat ([] : List Bool)
def laws_eqIntS.l0 : Nat → List Int → List Int → Int → Option (Bool)
 | 0, _, _, _ => none
 | k + 1, x0, x1, x5 => if x5 < (x0.length : Int) then (if 0 ≤ x5 then (if x5 < (x1.length : Int) then (if (rd x0 x5) = (rd x1 x5) then (laws_eqIntS.l0 k x0 x1 (wrap64 (x5 + 1))) else (some false)) else (none)) else (none)) else (some true)
def laws_eqIntS.f (k : Nat) (l0 : List Int) (l1 : List Int) : Option (Bool) := if (l0.length : Int) = (l1.length : Int) then (laws_eqIntS.l0 k l0 l1 0) else (some false)
set_option maxHeartbeats 8000000 in
set_option maxRecDepth 100000 in
theorem laws_eqIntS.calls (k : Nat) (A0 : Option Addr) (c0 : Nat) (l0 : List Int) (A1 : Option Addr) (c1 : Nat) (l1 : List Int) (r : Bool) (w : World) (dy : Kd.C (Kd.int .i64) w A0 l0.length l0) (dz : l0.length ≤ c0) (fJ : Kd.C (Kd.int .i64) w A1 l1.length l1) (fK : l1.length ≤ c1) (h : laws_eqIntS.f k l0 l1 = some r) :
 Calls Tryz.prog 12 #[.slice A0 l0.length c0, .slice A1 l1.length c1] w fun e w' => e = .returned (.bool r) ∧ Drawn0 w w' := by
 have dq := zA dy; have hZ := zA dz; clear dy dz; have fV := zA fJ; have lb := zA fK; clear fJ fK; have H : (if (l0.length : Int) = (l1.length : Int) then (laws_eqIntS.l0 k l0 l1 0) else (some false)) = some r := h; clear h; by_cases c3 : (l0.length : Int) = (l1.length : Int)
 · rw [if_pos c3] at H; have cM : ((l0.length : Int) == (l1.length : Int)) = true := beq_iff_eq.mpr c3; have fo : ((l0.length : Int) != (l1.length : Int)) = false := bne_eq_false_iff_eq.mpr c3; have g3 : (l0.length == l1.length) = true := by first | simpa using c3 | (simp at c3 ⊢; omega)
   clear c3; have H' := zA H; clear H; go_enter Tryz.func12, Tryz.ntmps12; go_wp2; (repeat (go_quiet (fail); try go_wp2)); go_loopg [5] k (fun kq v5 w' => ∃ (ao : Int), v5 = .int .i64 ao ∧ Aside0 (laws_eqIntS.l0 kq l0 l1 ao = some r) ∧ Aside0 (kq ≤ k) ∧ Drawn0 w w')
   case atStart => exact ⟨(0), zz0y, H', ⟨Nat.le_refl _⟩, zz0w⟩
   case round =>
    clear H'; (try clear c1); (try clear p2); (try clear c3); (try clear cM); (try clear fo); (try clear g3); obtain ⟨ao, rfl, HA, bJ, ⟨m1, rfl⟩⟩ := hrel; cases gk with
    | zero => exact absurd HA.out (by simp [laws_eqIntS.l0])
    | succ k1 =>
     have H := HA.out; clear HA; simp only [laws_eqIntS.l0] at H; by_cases c4 : ao < (l0.length : Int)
     · rw [if_pos c4] at H; have dr := decide_eq_true c4; clear c4; replace H := zIn H; obtain ⟨c5, H⟩ := H; have ff : decide (0 ≤ ao) = true := decide_eq_true c5; clear c5; replace H := zIn H; obtain ⟨c6, H⟩ := H; have dt : decide (ao < (l1.length : Int)) = true := decide_eq_true c6; clear c6; by_cases c7 : (rd l0 ao) = (rd l1 ao)
       · rw [if_pos c7] at H; have dA : ((rd l0 ao) == (rd l1 ao)) = true := beq_iff_eq.mpr c7; have js : ((rd l0 ao) != (rd l1 ao)) = false := bne_eq_false_iff_eq.mpr c7; clear c7; have H' := zA H; clear H; have aN : 0 ≤ (ao : Int) := of_decide_eq_true zz1b; have aQ : ao < (l0.length : Int) := of_decide_eq_true zz1b; obtain ⟨bm, bH, be⟩ := Kd.at_int dq.out ao aN aQ; cases bH; replace aN := eq_true aN; replace aQ := eq_true aQ; have bS : 0 ≤ (ao : Int) := of_decide_eq_true zz1b; have bT : ao < (l1.length : Int) := of_decide_eq_true zz1b; obtain ⟨dB, dj, b5⟩ := Kd.at_int fV.out ao bS bT; cases dj; replace bS := eq_true bS; replace bT := eq_true bT; go_wp2; repeat (go_quiet (fail); try go_wp2)
         go_roundg k1
         case measure => have := bJ.out; omega
         case rel => exact ⟨(wrap64 (ao + 1)), zz0y, H', ⟨zz18 bJ⟩, zz0w⟩
       · rw [if_neg c7] at H; have dA : ((rd l0 ao) == (rd l1 ao)) = false := beq_eq_false_iff_ne.mpr c7; have js : ((rd l0 ao) != (rd l1 ao)) = true := bne_iff_ne.mpr c7; obtain rfl := Option.some.inj H; have aN : 0 ≤ (ao : Int) := of_decide_eq_true zz1b; have aQ : ao < (l0.length : Int) := of_decide_eq_true zz1b; obtain ⟨bm, bH, be⟩ := Kd.at_int dq.out ao aN aQ; cases bH; replace aN := eq_true aN; replace aQ := eq_true aQ; have bS : 0 ≤ (ao : Int) := of_decide_eq_true zz1b; have bT : ao < (l1.length : Int) := of_decide_eq_true zz1b; obtain ⟨dB, dj, b5⟩ := Kd.at_int fV.out ao bS bT; cases dj; replace bS := eq_true bS; replace bT := eq_true bT; go_wp2; (repeat (go_quiet (fail); try go_wp2)); go_ret; exact ⟨zz0y, zz0w⟩
     · rw [if_neg c4] at H; have dr := decide_eq_false c4; clear c4; obtain rfl := Option.some.inj H; go_wp2; (repeat (go_quiet (fail); try go_wp2)); go_ret; exact ⟨zz0y, zz0w⟩
 · rw [if_neg c3] at H; have cM : ((l0.length : Int) == (l1.length : Int)) = false := beq_eq_false_iff_ne.mpr c3; have fo : ((l0.length : Int) != (l1.length : Int)) = true := bne_iff_ne.mpr c3; have g3 : (l0.length == l1.length) = false := by first | simpa using c3 | (simp at c3 ⊢; omega)
   obtain rfl := Option.some.inj H; go_enter Tryz.func12, Tryz.ntmps12; go_wp2; (repeat (go_quiet (fail); try go_wp2)); go_ret; exact ⟨zz0y, zz0w⟩
def laws_eqIntSS.l0 : Nat → List (List Int) → List (List Int) → Int → Option (Bool)
 | 0, _, _, _ => none
 | k + 1, x0, x1, x5 => if x5 < (x0.length : Int) then (if 0 ≤ x5 then (if x5 < (x1.length : Int) then ((laws_eqIntS.f k (rd_L1 x0 x5) (rd_L1 x1 x5)).bind fun b7 => (if b7 = true then (laws_eqIntSS.l0 k x0 x1 (wrap64 (x5 + 1))) else (some false))) else (none)) else (none)) else (some true)
def laws_eqIntSS.f (k : Nat) (l0 : List (List Int)) (l1 : List (List Int)) : Option (Bool) := if (l0.length : Int) = (l1.length : Int) then (laws_eqIntSS.l0 k l0 l1 0) else (some false)
set_option maxHeartbeats 8000000 in
set_option maxRecDepth 100000 in
theorem laws_eqIntSS.calls (k : Nat) (A0 : Option Addr) (c0 : Nat) (l0 : List (List Int)) (A1 : Option Addr) (c1 : Nat) (l1 : List (List Int)) (r : Bool) (w : World) (dy : Kd.C (Kd.slice 3 (Kd.int .i64)) w A0 l0.length l0) (dz : l0.length ≤ c0) (fJ : Kd.C (Kd.slice 3 (Kd.int .i64)) w A1 l1.length l1) (fK : l1.length ≤ c1) (h : laws_eqIntSS.f k l0 l1 = some r) :
 Calls Tryz.prog 34 #[.slice A0 l0.length c0, .slice A1 l1.length c1] w fun e w' => e = .returned (.bool r) ∧ Drawn0 w w' := by
 have dq := zA dy; have hZ := zA dz; clear dy dz; have fV := zA fJ; have lb := zA fK; clear fJ fK; have H : (if (l0.length : Int) = (l1.length : Int) then (laws_eqIntSS.l0 k l0 l1 0) else (some false)) = some r := h; clear h; by_cases c3 : (l0.length : Int) = (l1.length : Int)
 · rw [if_pos c3] at H; have cM : ((l0.length : Int) == (l1.length : Int)) = true := beq_iff_eq.mpr c3; have fo : ((l0.length : Int) != (l1.length : Int)) = false := bne_eq_false_iff_eq.mpr c3; have g3 : (l0.length == l1.length) = true := by first | simpa using c3 | (simp at c3 ⊢; omega)
   clear c3; have H' := zA H; clear H; go_enter Tryz.func34, Tryz.ntmps34; go_wp2; (repeat (go_quiet (fail); try go_wp2)); go_loopg [5] k (fun kq v5 w' => ∃ (ao : Int), v5 = .int .i64 ao ∧ Aside0 (laws_eqIntSS.l0 kq l0 l1 ao = some r) ∧ Aside0 (kq ≤ k) ∧ Drawn0 w w')
   case atStart => exact ⟨(0), zz0y, H', ⟨Nat.le_refl _⟩, zz0w⟩
   case round =>
    clear H'; (try clear c1); (try clear p2); (try clear c3); (try clear cM); (try clear fo); (try clear g3); obtain ⟨ao, rfl, HA, bJ, ⟨m1, rfl⟩⟩ := hrel; cases gk with
    | zero => exact absurd HA.out (by simp [laws_eqIntSS.l0])
    | succ k1 =>
     have H := HA.out; clear HA; simp only [laws_eqIntSS.l0] at H; by_cases c4 : ao < (l0.length : Int)
     · rw [if_pos c4] at H; have dr := decide_eq_true c4; clear c4; replace H := zIn H; obtain ⟨c5, H⟩ := H; have ff : decide (0 ≤ ao) = true := decide_eq_true c5; clear c5; replace H := zIn H; obtain ⟨c6, H⟩ := H; have dt : decide (ao < (l1.length : Int)) = true := decide_eq_true c6; clear c6; replace H := Option.bind_eq_some_iff.mp H; obtain ⟨b7, lg, H⟩ := H; have A7 := zA lg; clear lg; by_cases c8 : b7 = true
       · subst c8; rw [if_pos rfl] at H; have H' := zA H; clear H; have aN : 0 ≤ (ao : Int) := of_decide_eq_true zz1b; have aQ : ao < (l0.length : Int) := of_decide_eq_true zz1b; obtain ⟨bm, fp, fq, bH, be, cm, cn⟩ := at_L1 dq.out ao aN aQ; cases bH; have ce := zA cn; have cz := zA cm; clear cn cm; replace aN := eq_true aN; replace aQ := eq_true aQ; have bS : 0 ≤ (ao : Int) := of_decide_eq_true zz1b; have bT : ao < (l1.length : Int) := of_decide_eq_true zz1b; obtain ⟨dB, A102_0, c102_0, dj, b5, fX, fY⟩ := at_L1 fV.out ao bS bT; cases dj; have eW := zA fY; have eX := zA fX; clear fY fX; replace bS := eq_true bS; replace bT := eq_true bT; go_wp2_with (first | (go_at_call 12; (with_reducible refine (laws_eqIntS.calls k1 _ _ (rd_L1 l0 ao) _ _ (rd_L1 l1 ao) true _ ?aj ?ak ?aI ?aJ A7.out).mono ?_); (case aj => repeat (first | exact ce.out | refine zP ?_ _ | refine zQ ?_ _ | refine zR ?_)); (case ak => exact cz.out); (case aI => repeat (first | exact eW.out | refine zP ?_ _ | refine zQ ?_ _ | refine zR ?_)); (case aJ => exact eX.out); rintro e w' ⟨rfl, ⟨nd, rfl⟩⟩; (try first | exact ⟨rfl, _, World.drewN_drewN _ _ _⟩ | exact ⟨rfl, _, Eq.trans (World.drewN_drewN _ _ _) (congrArg (World.drewN _) (Nat.add_assoc _ _ _))⟩))); repeat (go_quiet (first | (go_at_call 12; (with_reducible refine (laws_eqIntS.calls k1 _ _ (rd_L1 l0 ao) _ _ (rd_L1 l1 ao) true _ ?aj ?ak ?aI ?aJ A7.out).mono ?_); (case aj => repeat (first | exact ce.out | refine zP ?_ _ | refine zQ ?_ _ | refine zR ?_)); (case ak => exact cz.out); (case aI => repeat (first | exact eW.out | refine zP ?_ _ | refine zQ ?_ _ | refine zR ?_)); (case aJ => exact eX.out); rintro e w' ⟨rfl, ⟨nd, rfl⟩⟩; (try first | exact ⟨rfl, _, World.drewN_drewN _ _ _⟩ | exact ⟨rfl, _, Eq.trans (World.drewN_drewN _ _ _) (congrArg (World.drewN _) (Nat.add_assoc _ _ _))⟩))); try go_wp2_with (first | (go_at_call 12; (with_reducible refine (laws_eqIntS.calls k1 _ _ (rd_L1 l0 ao) _ _ (rd_L1 l1 ao) true _ ?aj ?ak ?aI ?aJ A7.out).mono ?_); (case aj => repeat (first | exact ce.out | refine zP ?_ _ | refine zQ ?_ _ | refine zR ?_)); (case ak => exact cz.out); (case aI => repeat (first | exact eW.out | refine zP ?_ _ | refine zQ ?_ _ | refine zR ?_)); (case aJ => exact eX.out); rintro e w' ⟨rfl, ⟨nd, rfl⟩⟩; (try first | exact ⟨rfl, _, World.drewN_drewN _ _ _⟩ | exact ⟨rfl, _, Eq.trans (World.drewN_drewN _ _ _) (congrArg (World.drewN _) (Nat.add_assoc _ _ _))⟩))))
         go_roundg k1
         case measure => have := bJ.out; omega
         case rel => exact ⟨(wrap64 (ao + 1)), zz0y, H', ⟨zz18 bJ⟩, zz0w⟩
       · replace c8 := Bool.eq_false_iff.mpr c8; subst c8; rw [if_neg zFt] at H; obtain rfl := Option.some.inj H; have aN : 0 ≤ (ao : Int) := of_decide_eq_true zz1b; have aQ : ao < (l0.length : Int) := of_decide_eq_true zz1b; obtain ⟨bm, fp, fq, bH, be, cm, cn⟩ := at_L1 dq.out ao aN aQ; cases bH; have ce := zA cn; have cz := zA cm; clear cn cm; replace aN := eq_true aN; replace aQ := eq_true aQ; have bS : 0 ≤ (ao : Int) := of_decide_eq_true zz1b; have bT : ao < (l1.length : Int) := of_decide_eq_true zz1b; obtain ⟨dB, A102_0, c102_0, dj, b5, fX, fY⟩ := at_L1 fV.out ao bS bT; cases dj; have eW := zA fY; have eX := zA fX; clear fY fX; replace bS := eq_true bS; replace bT := eq_true bT; go_wp2_with (first | (go_at_call 12; (with_reducible refine (laws_eqIntS.calls k1 _ _ (rd_L1 l0 ao) _ _ (rd_L1 l1 ao) false _ ?aj ?ak ?aI ?aJ A7.out).mono ?_); (case aj => repeat (first | exact ce.out | refine zP ?_ _ | refine zQ ?_ _ | refine zR ?_)); (case ak => exact cz.out); (case aI => repeat (first | exact eW.out | refine zP ?_ _ | refine zQ ?_ _ | refine zR ?_)); (case aJ => exact eX.out); rintro e w' ⟨rfl, ⟨nd, rfl⟩⟩; (try first | exact ⟨rfl, _, World.drewN_drewN _ _ _⟩ | exact ⟨rfl, _, Eq.trans (World.drewN_drewN _ _ _) (congrArg (World.drewN _) (Nat.add_assoc _ _ _))⟩))); (repeat (go_quiet (first | (go_at_call 12; (with_reducible refine (laws_eqIntS.calls k1 _ _ (rd_L1 l0 ao) _ _ (rd_L1 l1 ao) false _ ?aj ?ak ?aI ?aJ A7.out).mono ?_); (case aj => repeat (first | exact ce.out | refine zP ?_ _ | refine zQ ?_ _ | refine zR ?_)); (case ak => exact cz.out); (case aI => repeat (first | exact eW.out | refine zP ?_ _ | refine zQ ?_ _ | refine zR ?_)); (case aJ => exact eX.out); rintro e w' ⟨rfl, ⟨nd, rfl⟩⟩; (try first | exact ⟨rfl, _, World.drewN_drewN _ _ _⟩ | exact ⟨rfl, _, Eq.trans (World.drewN_drewN _ _ _) (congrArg (World.drewN _) (Nat.add_assoc _ _ _))⟩))); try go_wp2_with (first | (go_at_call 12; (with_reducible refine (laws_eqIntS.calls k1 _ _ (rd_L1 l0 ao) _ _ (rd_L1 l1 ao) false _ ?aj ?ak ?aI ?aJ A7.out).mono ?_); (case aj => repeat (first | exact ce.out | refine zP ?_ _ | refine zQ ?_ _ | refine zR ?_)); (case ak => exact cz.out); (case aI => repeat (first | exact eW.out | refine zP ?_ _ | refine zQ ?_ _ | refine zR ?_)); (case aJ => exact eX.out); rintro e w' ⟨rfl, ⟨nd, rfl⟩⟩; (try first | exact ⟨rfl, _, World.drewN_drewN _ _ _⟩ | exact ⟨rfl, _, Eq.trans (World.drewN_drewN _ _ _) (congrArg (World.drewN _) (Nat.add_assoc _ _ _))⟩))))); go_ret; exact ⟨zz0y, zz0w⟩
     · rw [if_neg c4] at H; have dr := decide_eq_false c4; clear c4; obtain rfl := Option.some.inj H; go_wp2; (repeat (go_quiet (fail); try go_wp2)); go_ret; exact ⟨zz0y, zz0w⟩
 · rw [if_neg c3] at H; have cM : ((l0.length : Int) == (l1.length : Int)) = false := beq_eq_false_iff_ne.mpr c3; have fo : ((l0.length : Int) != (l1.length : Int)) = true := bne_iff_ne.mpr c3; have g3 : (l0.length == l1.length) = false := by first | simpa using c3 | (simp at c3 ⊢; omega)
   obtain rfl := Option.some.inj H; go_enter Tryz.func34, Tryz.ntmps34; go_wp2; (repeat (go_quiet (fail); try go_wp2)); go_ret; exact ⟨zz0y, zz0w⟩
def laws_eqBinary.f (k : Nat) (ae : Int) (al : Int) (ab : List (List Int)) (af : List (List Int)) (ai : List Int) (ah : List (List Int)) (aT : Int) (a1_1 : Int) (l1_2 : List (List Int)) (l1_3 : List (List Int)) (l1_4 : List Int) (l1_5 : List (List Int)) : Option (Bool) := if ae = aT then (if al = a1_1 then ((laws_eqIntSS.f k ab l1_2).bind fun b7 => (if b7 = true then ((laws_eqIntSS.f k af l1_3).bind fun a7 => (if a7 = true then ((laws_eqIntS.f k ai l1_4).bind fun cY => (if cY = true then ((laws_eqIntSS.f k ah l1_5).bind fun cp => (if cp = true then (some true) else (some false))) else (some false))) else (some false))) else (some false))) else (some false)) else (some false)
def laws_szIntS.f (l0 : List Int) (a1 : Int) : Option (Int) := if (wrap64 (a1 - (l0.length : Int))) < 0 then (some (-1)) else (some (wrap64 (a1 - (l0.length : Int))))
set_option maxHeartbeats 8000000 in
set_option maxRecDepth 100000 in
theorem laws_szIntS.calls (A0 : Option Addr) (c0 : Nat) (l0 : List Int) (a1 : Int) (r : Int) (w : World) (dy : Kd.C (Kd.int .i64) w A0 l0.length l0) (dz : l0.length ≤ c0) (h : laws_szIntS.f l0 a1 = some r) :
 Calls Tryz.prog 23 #[.slice A0 l0.length c0, .int .i64 a1] w fun e w' => e = .returned (.int .i64 r) ∧ Drawn0 w w' := by
 have dq := zA dy; have hZ := zA dz; clear dy dz; have H : (if (wrap64 (a1 - (l0.length : Int))) < 0 then (some (-1)) else (some (wrap64 (a1 - (l0.length : Int))))) = some r := h; clear h; by_cases c3 : (wrap64 (a1 - (l0.length : Int))) < 0
 · rw [if_pos c3] at H; have cM := decide_eq_true c3; clear c3; obtain rfl := Option.some.inj H; go_enter Tryz.func23, Tryz.ntmps23; go_wp2; go_ret; exact ⟨zz0y, zz0w⟩
 · rw [if_neg c3] at H; have cM := decide_eq_false c3; clear c3; obtain rfl := Option.some.inj H; go_enter Tryz.func23, Tryz.ntmps23; go_wp2; go_ret; exact ⟨zz0y, zz0w⟩
def laws_szIntSS.l0 : Nat → List (List Int) → Int → Int → Option (Int)
 | 0, _, _, _ => none
 | k + 1, x0, x1, x5 => if x5 < (x0.length : Int) then (if 0 ≤ x5 then ((laws_szIntS.f (rd_L1 x0 x5) x1).bind fun aH => (if aH < 0 then (some (-1)) else (laws_szIntSS.l0 k x0 aH (wrap64 (x5 + 1))))) else (none)) else (some x1)
def laws_szIntSS.f (k : Nat) (l0 : List (List Int)) (a1 : Int) : Option (Int) := if (wrap64 (a1 - (l0.length : Int))) < 0 then (some (-1)) else (laws_szIntSS.l0 k l0 (wrap64 (a1 - (l0.length : Int))) 0)
set_option maxHeartbeats 8000000 in
set_option maxRecDepth 100000 in
theorem laws_szIntSS.calls (k : Nat) (A0 : Option Addr) (c0 : Nat) (l0 : List (List Int)) (a1 : Int) (r : Int) (w : World) (dy : Kd.C (Kd.slice 3 (Kd.int .i64)) w A0 l0.length l0) (dz : l0.length ≤ c0) (h : laws_szIntSS.f k l0 a1 = some r) :
 Calls Tryz.prog 22 #[.slice A0 l0.length c0, .int .i64 a1] w fun e w' => e = .returned (.int .i64 r) ∧ Drawn0 w w' := by
 have dq := zA dy; have hZ := zA dz; clear dy dz; have H : (if (wrap64 (a1 - (l0.length : Int))) < 0 then (some (-1)) else (laws_szIntSS.l0 k l0 (wrap64 (a1 - (l0.length : Int))) 0)) = some r := h; clear h; by_cases c3 : (wrap64 (a1 - (l0.length : Int))) < 0
 · rw [if_pos c3] at H; have cM := decide_eq_true c3; clear c3; obtain rfl := Option.some.inj H; go_enter Tryz.func22, Tryz.ntmps22; go_wp2; go_ret; exact ⟨zz0y, zz0w⟩
 · rw [if_neg c3] at H; have cM := decide_eq_false c3; clear c3; have H' := zA H; clear H; go_enter Tryz.func22, Tryz.ntmps22; go_wp2; go_loopg [1, 5] k (fun kq v1 v5 w' => ∃ (dX : Int) (ao : Int), v1 = .int .i64 dX ∧ v5 = .int .i64 ao ∧ Aside0 (laws_szIntSS.l0 kq l0 dX ao = some r) ∧ Aside0 (kq ≤ k) ∧ Drawn0 w w')
   case atStart => exact ⟨(wrap64 (a1 - (l0.length : Int))), (0), zz0y, zz0y, H', ⟨Nat.le_refl _⟩, zz0w⟩
   case round =>
    clear H'; (try clear c2); (try clear p2); (try clear c3); (try clear cM); obtain ⟨dX, ao, rfl, rfl, HA, bJ, ⟨m1, rfl⟩⟩ := hrel; cases gk with
    | zero => exact absurd HA.out (by simp [laws_szIntSS.l0])
    | succ k1 =>
     have H := HA.out; clear HA; simp only [laws_szIntSS.l0] at H; by_cases c4 : ao < (l0.length : Int)
     · rw [if_pos c4] at H; have dr := decide_eq_true c4; clear c4; replace H := zIn H; obtain ⟨c5, H⟩ := H; have ff : decide (0 ≤ ao) = true := decide_eq_true c5; clear c5; replace H := Option.bind_eq_some_iff.mp H; obtain ⟨aH, gx, H⟩ := H; have A6 := zA gx; clear gx; by_cases c7 : aH < 0
       · rw [if_pos c7] at H; have dA := decide_eq_true c7; clear c7; obtain rfl := Option.some.inj H; have aN : 0 ≤ (ao : Int) := of_decide_eq_true zz1b; have aQ : ao < (l0.length : Int) := of_decide_eq_true zz1b; obtain ⟨bm, fp, fq, bH, be, cm, cn⟩ := at_L1 dq.out ao aN aQ; cases bH; have ce := zA cn; have cz := zA cm; clear cn cm; replace aN := eq_true aN; replace aQ := eq_true aQ; go_wp2_with (first | ((with_reducible refine gate_callee (f := 23) rfl ?_); refine goesL_ (some 23) rfl rfl Tryz.func23 zz1c rfl #[.slice fp (rd_L1 l0 ao).length fq, .int .i64 dX] rfl zz0d ?_; (with_reducible refine (laws_szIntS.calls _ _ (rd_L1 l0 ao) dX aH _ ?aj ?ak A6.out).mono ?_); (case aj => repeat (first | exact ce.out | refine zP ?_ _ | refine zQ ?_ _ | refine zR ?_)); (case ak => exact cz.out); rintro e w' ⟨rfl, ⟨nd, rfl⟩⟩; refine ⟨_, rfl, ?_⟩)); go_ret; exact ⟨zz0y, zz0w⟩
       · rw [if_neg c7] at H; have dA := decide_eq_false c7; clear c7; have H' := zA H; clear H; have aN : 0 ≤ (ao : Int) := of_decide_eq_true zz1b; have aQ : ao < (l0.length : Int) := of_decide_eq_true zz1b; obtain ⟨bm, fp, fq, bH, be, cm, cn⟩ := at_L1 dq.out ao aN aQ; cases bH; have ce := zA cn; have cz := zA cm; clear cn cm; replace aN := eq_true aN; replace aQ := eq_true aQ; go_wp2_with (first | ((with_reducible refine gate_callee (f := 23) rfl ?_); refine goesL_ (some 23) rfl rfl Tryz.func23 zz1c rfl #[.slice fp (rd_L1 l0 ao).length fq, .int .i64 dX] rfl zz0d ?_; (with_reducible refine (laws_szIntS.calls _ _ (rd_L1 l0 ao) dX aH _ ?aj ?ak A6.out).mono ?_); (case aj => repeat (first | exact ce.out | refine zP ?_ _ | refine zQ ?_ _ | refine zR ?_)); (case ak => exact cz.out); rintro e w' ⟨rfl, ⟨nd, rfl⟩⟩; refine ⟨_, rfl, ?_⟩))
         go_roundg k1
         case measure => have := bJ.out; omega
         case rel => exact ⟨(aH), (wrap64 (ao + 1)), zz0y, zz0y, H', ⟨zz18 bJ⟩, zz0w⟩
     · rw [if_neg c4] at H; have dr := decide_eq_false c4; clear c4; obtain rfl := Option.some.inj H; go_wp2; go_ret; exact ⟨zz0y, zz0w⟩
def laws_szBinary.f (k : Nat) (ae : Int) (al : Int) (ab : List (List Int)) (af : List (List Int)) (ai : List Int) (ah : List (List Int)) (a1 : Int) : Option (Int) := (laws_szIntSS.f k ab a1).bind fun aH => (if aH < 0 then (some (-1)) else ((laws_szIntSS.f k af aH).bind fun b7 => (if b7 < 0 then (some (-1)) else ((laws_szIntS.f ai b7).bind fun a7 => (if a7 < 0 then (some (-1)) else ((laws_szIntSS.f k ah a7).bind fun cY => (if cY < 0 then (some (-1)) else (some cY))))))))
def impl_in.f (a0 : Int) (a1 : Int) (a2 : Int) : Option (Bool) := if a0 ≥ a1 then (some (decide (a0 ≤ a2))) else (some false)
set_option maxHeartbeats 8000000 in
set_option maxRecDepth 100000 in
theorem impl_in.calls (a0 : Int) (a1 : Int) (a2 : Int) (r : Bool) (w : World) (h : impl_in.f a0 a1 a2 = some r) :
 Calls Tryz.prog 48 #[.int .i64 a0, .int .i64 a1, .int .i64 a2] w fun e w' => e = .returned (.bool r) ∧ Drawn0 w w' := by
 have H : (if a0 ≥ a1 then (some (decide (a0 ≤ a2))) else (some false)) = some r := h; clear h; by_cases c4 : a0 ≥ a1
 · rw [if_pos c4] at H; have dr : decide (a1 ≤ a0) = true := decide_eq_true c4; clear c4; obtain rfl := Option.some.inj H; go_enter Tryz.func48, Tryz.ntmps48; go_wp2; go_ret; exact ⟨zz0y, zz0w⟩
 · rw [if_neg c4] at H; have dr : decide (a1 ≤ a0) = false := decide_eq_false c4; clear c4; obtain rfl := Option.some.inj H; go_enter Tryz.func48, Tryz.ntmps48; go_wp2; go_ret; exact ⟨zz0y, zz0w⟩
def impl_isSymbol.f (a0 : Int) (a1 : Int) (a2 : Int) : Option (Bool) := (impl_in.f a0 (wrap64 (-a2)) (wrap64 (a1 - 1))).bind fun cZ => (some cZ)
set_option maxHeartbeats 8000000 in
set_option maxRecDepth 100000 in
theorem impl_isSymbol.calls (a0 : Int) (a1 : Int) (a2 : Int) (r : Bool) (w : World) (h : impl_isSymbol.f a0 a1 a2 = some r) :
 Calls Tryz.prog 71 #[.int .i64 a0, .int .i64 a1, .int .i64 a2] w fun e w' => e = .returned (.bool r) ∧ Drawn0 w w' := by
 have H : ((impl_in.f a0 (wrap64 (-a2)) (wrap64 (a1 - 1))).bind fun cZ => (some cZ)) = some r := h; clear h; replace H := Option.bind_eq_some_iff.mp H; obtain ⟨cZ, fM, H⟩ := H; have A4 := zA fM; clear fM; obtain rfl := Option.some.inj H; go_enter Tryz.func71, Tryz.ntmps71; go_wp2_with (first | ((with_reducible refine gate_callee (f := 48) rfl ?_); refine goesL_ (some 12) rfl rfl Tryz.func48 zz1c rfl #[.int .i64 a0, .int .i64 (wrap64 (-a2)), .int .i64 (wrap64 (a1 - 1))] rfl zz0d ?_; (with_reducible refine (impl_in.calls a0 (wrap64 (-a2)) (wrap64 (a1 - 1)) cZ _ A4.out).mono ?_); rintro e w' ⟨rfl, ⟨nd, rfl⟩⟩; refine ⟨_, rfl, ?_⟩)); go_ret; exact ⟨zz0y, zz0w⟩
end Go.Proofs.YtkocahlifffgjaaGreat.P
namespace Go.Proofs.YtkocahlifffgjaaGreat.P
open Go.RowKit Go.Proofs.YtkocahlifffgjaaGreatW.PrintWords Go.Proofs.YtkocahlifffgjaaGreatW.PrintLast Go.Proofs.YtkocahlifffgjaaGreatW.PrintMore
set_option linter.unusedVariables false
set_option linter.unusedSimpArgs false
def idxF {α : Type} (p : α → Bool) (l : List α) : Int := if l.any p = true then (l.findIdx p : Int) else -1
theorem idxF_hit {α : Type} (p : α → Bool) (l : List α) (d : α) (i : Nat) (hi : i < l.length) (h : p (l.getD i d) = true) (hb : ∀ j, j < i → p (l.getD j d) = false) : idxF p l = i := by
 have hg : ∀ j (hj : j < l.length), l.getD j d = l[j] := fun j hj => by rw [List.getD_eq_getElem?_getD, List.getElem?_eq_getElem hj]; rfl
 have hany : l.any p = true := List.any_eq_true.mpr ⟨l[i], List.getElem_mem hi, by rw [← hg i hi]; exact h⟩; unfold idxF; rw [if_pos hany]; have : l.findIdx p = i := (List.findIdx_eq hi).mpr ⟨by rw [← hg i hi]; exact h, fun j hj => by rw [← hg j zz1g]; exact hb j hj⟩; rw [this]
theorem idxF_miss {α : Type} (p : α → Bool) (l : List α) (d : α) (hb : ∀ j, j < l.length → p (l.getD j d) = false) : idxF p l = -1 := by
 unfold idxF; rw [if_neg]; intro h; obtain ⟨x, hx, hp⟩ := List.any_eq_true.mp h; obtain ⟨j, hj, rfl⟩ := List.getElem_of_mem hx; have := hb j hj; rw [List.getD_eq_getElem?_getD, List.getElem?_eq_getElem hj] at this; simp at this; rw [this] at hp; cases hp
theorem idxF_any {α : Type} (p : α → Bool) (l : List α) : decide (0 ≤ idxF p l) = l.any p := by
 unfold idxF; cases h : l.any p <;> simp <;> omega
theorem drawn_below {w w' : World} (h : Drawn0 w w') : Below w.heap.size w w' := by
 obtain ⟨n, rfl⟩ := h; exact zC (Below.refl _ _) n
def PredI (g : Nat) (lb : Array Value) (p : Int → Bool) (w : World) : Prop :=
 ∀ (W : World) (x : Int), Below w.heap.size w W → Calls Tryz.prog g (#[.int .i64 x] ++ lb) W fun e w' => e = .returned (.bool (p x)) ∧ Below W.heap.size W w'
def PredID (g : Nat) (lb : Array Value) (D : Int → Prop) (p : Int → Bool) (w : World) : Prop :=
 ∀ (W : World) (x : Int), Below w.heap.size w W → D x → Calls Tryz.prog g (#[.int .i64 x] ++ lb) W fun e w' => e = .returned (.bool (p x)) ∧ Below W.heap.size W w'
set_option maxHeartbeats 2000000 in
set_option maxRecDepth 100000 in
theorem indexFunc_intD (g : Nat) (lb : Array Value) (eg : ∀ args w, (callFunc g args).run Tryz.prog w = .ok (.enter g args) w) (p : Int → Bool) (A : Option Addr) (c : Nat) (l : List Int) (w : World)
 (hr : Kd.C (Kd.int .i64) w A l.length l) (hc : l.length ≤ c) (D : Int → Prop) (hD : ∀ j : Nat, j < l.length → D (rd l j)) (hp : PredID g lb D p w) :
 Calls Tryz.prog 73 #[.slice A l.length c, .func (.func g) #[] lb] w fun e w' => e = .returned (.int .i64 (idxF p l)) ∧ Below w.heap.size w w' := by
 have hmax : l.length ≤ 9223372036854775807 := hr.2.1; go_enter Tryz.func73, Tryz.ntmps73; go_wp2; go_loopg [5, 8] l.length (fun gg _ s8 wr => ∃ kk : Nat, kk ≤ l.length ∧ l.length - kk ≤ gg ∧ s8 = .int .i64 kk ∧ Aside0 (Below w.heap.size w wr) ∧ Aside0 (∀ j, j < kk → p (l.getD j 0) = false))
 case atStart => exact ⟨0, Nat.zero_le _, zz1g, rfl, ⟨Below.refl _ w⟩, ⟨fun j hj => absurd hj (Nat.not_lt_zero _)⟩⟩
 case round =>
  obtain ⟨kk, hkk, hg, rfl, BW, A0⟩ := hrel; by_cases hlt : kk < l.length
  · obtain ⟨ad, e, hx⟩ := Kd.at_int (zS hr BW.out) (kk : Int) zz1g zz1g; subst e; have hx2 : wr.cell? (ad.add kk) = some (.int .i64 (rd l kk)) := by simpa using hx
    have hcall := hp wr (rd l kk) BW.out (hD kk hlt); have hB := zA (show l.getD kk 0 = rd l kk from rfl); have L := zA hlt; have hd : decide (kk < l.length) = true := decide_eq_true hlt; clear hx hp hr hD; generalize rd l kk = y at hcall hB hx2; cases hq : p y with
    | true =>
     rw [hq] at hcall; have Q := zA hq; clear hq; go_wp2_with fail; refine hcall.mono ?_; rintro e w' ⟨rfl, hb'⟩; clear hcall hd eg hlt; go_wp2; go_ret; refine ⟨?_, zG BW.out hb'⟩; rw [idxF_hit p l 0 kk L.out (zz17 hB Q) A0.out]; rfl
    | false =>
     rw [hq] at hcall; have Q := zA hq; clear hq; go_wp2_with fail; refine hcall.mono ?_; rintro e w' ⟨rfl, hb'⟩; clear hcall hd eg; go_wp2
     go_roundg (l.length - (kk + 1))
     case measure => have := L.out; omega
     case rel =>
      refine ⟨kk + 1, zz18 L, zz1g, zz1e, ⟨zG BW.out hb'⟩, ⟨fun j hj => ?_⟩⟩; by_cases ej : j = kk
      · subst ej; rw [hB.out]; exact Q.out
      · exact A0.out j zz1g
  · have hd : decide (kk < l.length) = false := decide_eq_false hlt; have L := zA (show kk = l.length by omega); clear hp hr hlt hD; go_wp2; go_ret; refine ⟨?_, BW.out⟩; rw [idxF_miss p l 0 (by have := A0.out; rw [L.out] at this; exact this)]; rfl
set_option maxHeartbeats 2000000 in
theorem containsFunc_intD (g : Nat) (lb : Array Value) (eg : ∀ args w, (callFunc g args).run Tryz.prog w = .ok (.enter g args) w) (p : Int → Bool) (A : Option Addr) (c : Nat) (l : List Int) (w : World)
 (hr : Kd.C (Kd.int .i64) w A l.length l) (hc : l.length ≤ c) (D : Int → Prop) (hD : ∀ j : Nat, j < l.length → D (rd l j)) (hp : PredID g lb D p w) :
 Calls Tryz.prog 55 #[.slice A l.length c, .func (.func g) #[] lb] w fun e w' => e = .returned (.bool (l.any p)) ∧ Below w.heap.size w w' := by
 have H := indexFunc_intD g lb eg p A c l w hr hc D hD hp; have hz := zA (idxF_any p l); generalize idxF p l = i at H hz; go_enter Tryz.func55, Tryz.ntmps55; go_wp2_with (go_at_call 73; refine H.mono ?_; rintro e w' ⟨rfl, hb'⟩); go_ret; exact ⟨by rw [← hz.out]; rfl, hb'⟩
theorem containsFunc_int (g : Nat) (lb : Array Value) (eg : ∀ args w, (callFunc g args).run Tryz.prog w = .ok (.enter g args) w) (p : Int → Bool) (A : Option Addr) (c : Nat) (l : List Int) (w : World)
 (hr : Kd.C (Kd.int .i64) w A l.length l) (hc : l.length ≤ c) (hp : PredI g lb p w) :
 Calls Tryz.prog 55 #[.slice A l.length c, .func (.func g) #[] lb] w fun e w' => e = .returned (.bool (l.any p)) ∧ Below w.heap.size w w' :=
 containsFunc_intD g lb eg p A c l w hr hc (fun _ => True) (fun _ _ => trivial) (fun W x hb _ => hp W x hb)
def symB (nons toks x : Int) : Bool := decide (wrap64 (-toks) ≤ x ∧ x ≤ wrap64 (nons - 1))
theorem impl_in_eq (a b c : Int) : impl_in.f a b c = some (decide (b ≤ a ∧ a ≤ c)) := by
 unfold impl_in.f; by_cases h : a ≥ b
 · rw [if_pos h]; congr 2; simp; omega
 · rw [if_neg h]; simp; omega
theorem impl_isSymbol_eq (x nons toks : Int) : impl_isSymbol.f x nons toks = some (symB nons toks x) := by
 unfold impl_isSymbol.f symB; rw [impl_in_eq]; rfl
set_option maxHeartbeats 2000000 in
theorem pred_sym (nons toks : Int) (B C : Nat) (w : World) (hB : B < w.heap.size) (hC : C < w.heap.size) (hcB : w.cell? ⟨B, 0, none⟩ = some (.int .i64 nons)) (hcC : w.cell? ⟨C, 0, none⟩ = some (.int .i64 toks)) :
 PredI 70 #[.pointer (some ⟨B, 0, none⟩), .pointer (some ⟨C, 0, none⟩)] (fun x => !symB nons toks x) w := fun W x hb => by
 have h1 : W.cell? ⟨B, 0, none⟩ = some (.int .i64 nons) := (hb.cell (p := ⟨B, 0, none⟩) hB).trans hcB; have h2 : W.cell? ⟨C, 0, none⟩ = some (.int .i64 toks) := (hb.cell (p := ⟨C, 0, none⟩) hC).trans hcC; have hc := fun w => impl_isSymbol.calls x nons toks _ w (impl_isSymbol_eq x nons toks)
 clear hb hcB hcC; show Calls Tryz.prog 70 #[.int .i64 x, .pointer (some ⟨B, 0, none⟩), .pointer (some ⟨C, 0, none⟩)] W fun e w' => e = .returned (.bool (!symB nons toks x)) ∧ Below W.heap.size W w'
 generalize symB nons toks x = b at hc ⊢; go_enter Tryz.func70, Tryz.ntmps70; go_wp2_with (go_at_call 71; refine (hc _).mono ?_; rintro e w' ⟨rfl, hd⟩); go_ret; exact ⟨rfl, drawn_below hd⟩
def impl_areSymbols.f (l0 : List Int) (a1 a2 : Int) : Option Bool := some (!(l0.any fun x => !symB a1 a2 x))
set_option maxHeartbeats 2000000 in
theorem impl_areSymbols.calls (A0 : Option Addr) (c0 : Nat) (l0 : List Int) (a1 a2 : Int) (r : Bool) (w : World) (hr0 : Kd.C (Kd.int .i64) w A0 l0.length l0) (hc0 : l0.length ≤ c0) (h : impl_areSymbols.f l0 a1 a2 = some r) :
 Calls Tryz.prog 52 #[.slice A0 l0.length c0, .int .i64 a1, .int .i64 a2] w fun e w' => e = .returned (.bool r) ∧ Below w.heap.size w w' := by
 obtain rfl := Option.some.inj h; clear h; have eg : ∀ args w, (callFunc 70 args).run Tryz.prog w = .ok (.enter 70 args) w := enters_of Tryz.func70 zz1c rfl; have H := zA fun (W : World) (B C : Nat) (hW : Below w.heap.size w W) (hB : B < W.heap.size) (hC : C < W.heap.size) (hcB : W.cell? ⟨B, 0, none⟩ = some (.int .i64 a1)) (hcC : W.cell? ⟨C, 0, none⟩ = some (.int .i64 a2)) =>
  containsFunc_int _ #[.pointer (some ⟨B, 0, none⟩), .pointer (some ⟨C, 0, none⟩)] eg (fun x => !symB a1 a2 x) A0 c0 l0 W (zS hr0 hW) hc0 (pred_sym a1 a2 B C W hB hC hcB hcC)
 clear hr0 hc0; generalize (l0.any fun x => !symB a1 a2 x) = b at H ⊢; go_enter Tryz.func52, Tryz.ntmps52; go_wp2_with (go_at_call 55; refine (H.out _ _ _ zz0x (by simp <;> omega) (by simp <;> omega) zz1h zz1h).mono ?_; rintro e w' ⟨rfl, hb'⟩); go_ret; exact ⟨rfl, zG zz0x hb'⟩
set_option maxHeartbeats 8000000 in
set_option maxRecDepth 100000 in
theorem laws_eqBinary.same (k : Nat) (a0_0 : Int) (a0_1 : Int) (A0_2 : Option Addr) (c0_2 : Nat) (l0_2 : List (List Int)) (A0_3 : Option Addr) (c0_3 : Nat) (l0_3 : List (List Int)) (A0_4 : Option Addr) (c0_4 : Nat) (l0_4 : List Int) (A0_5 : Option Addr) (c0_5 : Nat) (l0_5 : List (List Int)) (a1_0 : Int) (a1_1 : Int) (A1_2 : Option Addr) (c1_2 : Nat) (l1_2 : List (List Int)) (A1_3 : Option Addr) (c1_3 : Nat) (l1_3 : List (List Int)) (A1_4 : Option Addr) (c1_4 : Nat) (l1_4 : List Int) (A1_5 : Option Addr) (c1_5 : Nat) (l1_5 : List (List Int)) (_r : Bool) (w : World) (hr0_2 : Kd.C (Kd.slice 3 (Kd.int .i64)) w A0_2 l0_2.length l0_2) (hc0_2 : l0_2.length ≤ c0_2) (hr0_3 : Kd.C (Kd.slice 3 (Kd.int .i64)) w A0_3 l0_3.length l0_3) (hc0_3 : l0_3.length ≤ c0_3) (hr0_4 : Kd.C (Kd.int .i64) w A0_4 l0_4.length l0_4) (hc0_4 : l0_4.length ≤ c0_4) (hr0_5 : Kd.C (Kd.slice 3 (Kd.int .i64)) w A0_5 l0_5.length l0_5) (hc0_5 : l0_5.length ≤ c0_5) (hr1_2 : Kd.C (Kd.slice 3 (Kd.int .i64)) w A1_2 l1_2.length l1_2) (hc1_2 : l1_2.length ≤ c1_2) (hr1_3 : Kd.C (Kd.slice 3 (Kd.int .i64)) w A1_3 l1_3.length l1_3) (hc1_3 : l1_3.length ≤ c1_3) (hr1_4 : Kd.C (Kd.int .i64) w A1_4 l1_4.length l1_4) (hc1_4 : l1_4.length ≤ c1_4) (hr1_5 : Kd.C (Kd.slice 3 (Kd.int .i64)) w A1_5 l1_5.length l1_5) (hc1_5 : l1_5.length ≤ c1_5) (h : laws_eqBinary.f k a0_0 a0_1 l0_2 l0_3 l0_4 l0_5 a1_0 a1_1 l1_2 l1_3 l1_4 l1_5 = some true) :
 Calls Tryz.prog 13 #[.agg #[.int .i64 a0_0, .int .i64 a0_1, .slice A0_2 l0_2.length c0_2, .slice A0_3 l0_3.length c0_3, .slice A0_4 l0_4.length c0_4, .slice A0_5 l0_5.length c0_5], .agg #[.int .i64 a1_0, .int .i64 a1_1, .slice A1_2 l1_2.length c1_2, .slice A1_3 l1_3.length c1_3, .slice A1_4 l1_4.length c1_4, .slice A1_5 l1_5.length c1_5]] w fun e w' => e = .returned (.bool true) ∧ Below w.heap.size w w' := by
 have hu := Tryz.underlying32; have HB := zA (Below.refl w.heap.size w); unfold laws_eqBinary.f at h; by_cases e0 : a0_0 = a1_0; rotate_left
 · rw [if_neg e0] at h; cases h
 rw [if_pos e0] at h; subst e0; by_cases e1 : a0_1 = a1_1; rotate_left
 · rw [if_neg e1] at h; cases h
 rw [if_pos e1] at h; subst e1; obtain ⟨t2, h2, h⟩ := Option.bind_eq_some_iff.mp h; cases t2 with
 | false => rw [if_neg zz1f] at h; cases h
 | true =>
 rw [if_pos rfl] at h; obtain ⟨t3, h3, h⟩ := Option.bind_eq_some_iff.mp h; cases t3 with
 | false => rw [if_neg zz1f] at h; cases h
 | true =>
 rw [if_pos rfl] at h; obtain ⟨t4, h4, h⟩ := Option.bind_eq_some_iff.mp h; cases t4 with
 | false => rw [if_neg zz1f] at h; cases h
 | true =>
 rw [if_pos rfl] at h; obtain ⟨t5, h5, h⟩ := Option.bind_eq_some_iff.mp h; cases t5 with
 | false => rw [if_neg zz1f] at h; cases h
 | true =>
 rw [if_pos rfl] at h; clear h; go_enter Tryz.func13, Tryz.ntmps13; go_wp2_with fail; refine (laws_eqIntSS.calls k A0_2 c0_2 l0_2 A1_2 c1_2 l1_2 true _ (zS hr0_2 (zz0q HB)) hc0_2 (zS hr1_2 (zz0q HB)) hc1_2 h2).mono ?_; rintro e w2 ⟨rfl, hd⟩; have hb := drawn_below hd; clear hd; have NX := zA (zM (o := .cells #[.int .i64 a0_0, .int .i64 a0_1, .slice A0_2 l0_2.length c0_2, .slice A0_3 l0_3.length c0_3, .slice A0_4 l0_4.length c0_4, .slice A0_5 l0_5.length c0_5] 32 (0, 0)) (zH (heap_alloc_new w _) _) hb); have NY := zA (zM (g := (w.alloc (.cells #[.int .i64 a0_0, .int .i64 a0_1, .slice A0_2 l0_2.length c0_2, .slice A0_3 l0_3.length c0_3, .slice A0_4 l0_4.length c0_4, .slice A0_5 l0_5.length c0_5] 32 (0, 0))).heap.size) (o := .cells #[.int .i64 a0_0, .int .i64 a0_1, .slice A1_2 l1_2.length c1_2, .slice A1_3 l1_3.length c1_3, .slice A1_4 l1_4.length c1_4, .slice A1_5 l1_5.length c1_5] 32 (0, 0)) (heap_alloc_new _ _) hb); have NB := zA (zG (zz0q HB) hb); clear hb HB; have BX := NX; have HB := NB; clear NX NB; have BY := NY; clear NY; have x0 : w2.cell? ⟨w.heap.size, 0, none⟩ = some (.int .i64 a0_0) := (zK BX.out 0).trans rfl; have x1 : w2.cell? ⟨w.heap.size, 1, none⟩ = some (.int .i64 a0_1) := (zK BX.out 1).trans rfl; have x2 : w2.cell? ⟨w.heap.size, 2, none⟩ = some (.slice A0_2 l0_2.length c0_2) := (zK BX.out 2).trans rfl; have x3 : w2.cell? ⟨w.heap.size, 3, none⟩ = some (.slice A0_3 l0_3.length c0_3) := (zK BX.out 3).trans rfl; have x4 : w2.cell? ⟨w.heap.size, 4, none⟩ = some (.slice A0_4 l0_4.length c0_4) := (zK BX.out 4).trans rfl; have x5 : w2.cell? ⟨w.heap.size, 5, none⟩ = some (.slice A0_5 l0_5.length c0_5) := (zK BX.out 5).trans rfl; have y0 : w2.cell? ⟨w.heap.size + 1, 0, none⟩ = some (.int .i64 a0_0) := (zK (zz12 BY) 0).trans rfl; have y1 : w2.cell? ⟨w.heap.size + 1, 1, none⟩ = some (.int .i64 a0_1) := (zK (zz12 BY) 1).trans rfl; have y2 : w2.cell? ⟨w.heap.size + 1, 2, none⟩ = some (.slice A1_2 l1_2.length c1_2) := (zK (zz12 BY) 2).trans rfl; have y3 : w2.cell? ⟨w.heap.size + 1, 3, none⟩ = some (.slice A1_3 l1_3.length c1_3) := (zK (zz12 BY) 3).trans rfl; have y4 : w2.cell? ⟨w.heap.size + 1, 4, none⟩ = some (.slice A1_4 l1_4.length c1_4) := (zK (zz12 BY) 4).trans rfl; have y5 : w2.cell? ⟨w.heap.size + 1, 5, none⟩ = some (.slice A1_5 l1_5.length c1_5) := (zK (zz12 BY) 5).trans rfl; go_wp2_with fail; clear x0 x1 x2 x3 x4 x5 y0 y1 y2 y3 y4 y5; refine (laws_eqIntSS.calls k A0_3 c0_3 l0_3 A1_3 c1_3 l1_3 true _ (zS hr0_3 (zz0q HB)) hc0_3 (zS hr1_3 (zz0q HB)) hc1_3 h3).mono ?_; rintro e w3 ⟨rfl, hd⟩; have hb := drawn_below hd; clear hd; have NX := zA (zM BX.out hb); have NY := zA (zM BY.out hb); have NB := zA (zG (zz0q HB) hb); clear hb HB BX BY; have BX := NX; have HB := NB; clear NX NB; have BY := NY; clear NY; have x0 : w3.cell? ⟨w.heap.size, 0, none⟩ = some (.int .i64 a0_0) := (zK BX.out 0).trans rfl; have x1 : w3.cell? ⟨w.heap.size, 1, none⟩ = some (.int .i64 a0_1) := (zK BX.out 1).trans rfl; have x2 : w3.cell? ⟨w.heap.size, 2, none⟩ = some (.slice A0_2 l0_2.length c0_2) := (zK BX.out 2).trans rfl; have x3 : w3.cell? ⟨w.heap.size, 3, none⟩ = some (.slice A0_3 l0_3.length c0_3) := (zK BX.out 3).trans rfl; have x4 : w3.cell? ⟨w.heap.size, 4, none⟩ = some (.slice A0_4 l0_4.length c0_4) := (zK BX.out 4).trans rfl; have x5 : w3.cell? ⟨w.heap.size, 5, none⟩ = some (.slice A0_5 l0_5.length c0_5) := (zK BX.out 5).trans rfl; have y0 : w3.cell? ⟨w.heap.size + 1, 0, none⟩ = some (.int .i64 a0_0) := (zK (zz12 BY) 0).trans rfl; have y1 : w3.cell? ⟨w.heap.size + 1, 1, none⟩ = some (.int .i64 a0_1) := (zK (zz12 BY) 1).trans rfl; have y2 : w3.cell? ⟨w.heap.size + 1, 2, none⟩ = some (.slice A1_2 l1_2.length c1_2) := (zK (zz12 BY) 2).trans rfl; have y3 : w3.cell? ⟨w.heap.size + 1, 3, none⟩ = some (.slice A1_3 l1_3.length c1_3) := (zK (zz12 BY) 3).trans rfl; have y4 : w3.cell? ⟨w.heap.size + 1, 4, none⟩ = some (.slice A1_4 l1_4.length c1_4) := (zK (zz12 BY) 4).trans rfl; have y5 : w3.cell? ⟨w.heap.size + 1, 5, none⟩ = some (.slice A1_5 l1_5.length c1_5) := (zK (zz12 BY) 5).trans rfl; go_wp2_with fail; clear x0 x1 x2 x3 x4 x5 y0 y1 y2 y3 y4 y5; refine (laws_eqIntS.calls k A0_4 c0_4 l0_4 A1_4 c1_4 l1_4 true _ (zS hr0_4 (zz0q HB)) hc0_4 (zS hr1_4 (zz0q HB)) hc1_4 h4).mono ?_; rintro e w4 ⟨rfl, hd⟩; have hb := drawn_below hd; clear hd; have NX := zA (zM BX.out hb); have NY := zA (zM BY.out hb); have NB := zA (zG (zz0q HB) hb); clear hb HB BX BY; have BX := NX; have HB := NB; clear NX NB; have BY := NY; clear NY; have x0 : w4.cell? ⟨w.heap.size, 0, none⟩ = some (.int .i64 a0_0) := (zK BX.out 0).trans rfl; have x1 : w4.cell? ⟨w.heap.size, 1, none⟩ = some (.int .i64 a0_1) := (zK BX.out 1).trans rfl; have x2 : w4.cell? ⟨w.heap.size, 2, none⟩ = some (.slice A0_2 l0_2.length c0_2) := (zK BX.out 2).trans rfl; have x3 : w4.cell? ⟨w.heap.size, 3, none⟩ = some (.slice A0_3 l0_3.length c0_3) := (zK BX.out 3).trans rfl; have x4 : w4.cell? ⟨w.heap.size, 4, none⟩ = some (.slice A0_4 l0_4.length c0_4) := (zK BX.out 4).trans rfl; have x5 : w4.cell? ⟨w.heap.size, 5, none⟩ = some (.slice A0_5 l0_5.length c0_5) := (zK BX.out 5).trans rfl; have y0 : w4.cell? ⟨w.heap.size + 1, 0, none⟩ = some (.int .i64 a0_0) := (zK (zz12 BY) 0).trans rfl; have y1 : w4.cell? ⟨w.heap.size + 1, 1, none⟩ = some (.int .i64 a0_1) := (zK (zz12 BY) 1).trans rfl; have y2 : w4.cell? ⟨w.heap.size + 1, 2, none⟩ = some (.slice A1_2 l1_2.length c1_2) := (zK (zz12 BY) 2).trans rfl; have y3 : w4.cell? ⟨w.heap.size + 1, 3, none⟩ = some (.slice A1_3 l1_3.length c1_3) := (zK (zz12 BY) 3).trans rfl; have y4 : w4.cell? ⟨w.heap.size + 1, 4, none⟩ = some (.slice A1_4 l1_4.length c1_4) := (zK (zz12 BY) 4).trans rfl; have y5 : w4.cell? ⟨w.heap.size + 1, 5, none⟩ = some (.slice A1_5 l1_5.length c1_5) := (zK (zz12 BY) 5).trans rfl; go_wp2_with fail; clear x0 x1 x2 x3 x4 x5 y0 y1 y2 y3 y4 y5; refine (laws_eqIntSS.calls k A0_5 c0_5 l0_5 A1_5 c1_5 l1_5 true _ (zS hr0_5 (zz0q HB)) hc0_5 (zS hr1_5 (zz0q HB)) hc1_5 h5).mono ?_; rintro e w5 ⟨rfl, hd⟩; have hb := drawn_below hd; clear hd; have NX := zA (zM BX.out hb); have NY := zA (zM BY.out hb); have NB := zA (zG (zz0q HB) hb); clear hb HB BX BY; have BX := NX; have HB := NB; clear NX NB; have BY := NY; clear NY; have x0 : w5.cell? ⟨w.heap.size, 0, none⟩ = some (.int .i64 a0_0) := (zK BX.out 0).trans rfl; have x1 : w5.cell? ⟨w.heap.size, 1, none⟩ = some (.int .i64 a0_1) := (zK BX.out 1).trans rfl; have x2 : w5.cell? ⟨w.heap.size, 2, none⟩ = some (.slice A0_2 l0_2.length c0_2) := (zK BX.out 2).trans rfl; have x3 : w5.cell? ⟨w.heap.size, 3, none⟩ = some (.slice A0_3 l0_3.length c0_3) := (zK BX.out 3).trans rfl; have x4 : w5.cell? ⟨w.heap.size, 4, none⟩ = some (.slice A0_4 l0_4.length c0_4) := (zK BX.out 4).trans rfl; have x5 : w5.cell? ⟨w.heap.size, 5, none⟩ = some (.slice A0_5 l0_5.length c0_5) := (zK BX.out 5).trans rfl; have y0 : w5.cell? ⟨w.heap.size + 1, 0, none⟩ = some (.int .i64 a0_0) := (zK (zz12 BY) 0).trans rfl; have y1 : w5.cell? ⟨w.heap.size + 1, 1, none⟩ = some (.int .i64 a0_1) := (zK (zz12 BY) 1).trans rfl; have y2 : w5.cell? ⟨w.heap.size + 1, 2, none⟩ = some (.slice A1_2 l1_2.length c1_2) := (zK (zz12 BY) 2).trans rfl; have y3 : w5.cell? ⟨w.heap.size + 1, 3, none⟩ = some (.slice A1_3 l1_3.length c1_3) := (zK (zz12 BY) 3).trans rfl; have y4 : w5.cell? ⟨w.heap.size + 1, 4, none⟩ = some (.slice A1_4 l1_4.length c1_4) := (zK (zz12 BY) 4).trans rfl; have y5 : w5.cell? ⟨w.heap.size + 1, 5, none⟩ = some (.slice A1_5 l1_5.length c1_5) := (zK (zz12 BY) 5).trans rfl; go_wp2; go_ret; exact ⟨rfl, zz0q HB⟩
set_option maxHeartbeats 8000000 in
set_option maxRecDepth 100000 in
theorem laws_szBinary.fast (k : Nat) (a0_0 : Int) (a0_1 : Int) (A0_2 : Option Addr) (c0_2 : Nat) (l0_2 : List (List Int)) (A0_3 : Option Addr) (c0_3 : Nat) (l0_3 : List (List Int)) (A0_4 : Option Addr) (c0_4 : Nat) (l0_4 : List Int) (A0_5 : Option Addr) (c0_5 : Nat) (l0_5 : List (List Int)) (a1 : Int) (r : Int) (w : World) (hr0_2 : Kd.C (Kd.slice 3 (Kd.int .i64)) w A0_2 l0_2.length l0_2) (hc0_2 : l0_2.length ≤ c0_2) (hr0_3 : Kd.C (Kd.slice 3 (Kd.int .i64)) w A0_3 l0_3.length l0_3) (hc0_3 : l0_3.length ≤ c0_3) (hr0_4 : Kd.C (Kd.int .i64) w A0_4 l0_4.length l0_4) (hc0_4 : l0_4.length ≤ c0_4) (hr0_5 : Kd.C (Kd.slice 3 (Kd.int .i64)) w A0_5 l0_5.length l0_5) (hc0_5 : l0_5.length ≤ c0_5) (h : laws_szBinary.f k a0_0 a0_1 l0_2 l0_3 l0_4 l0_5 a1 = some r) :
 Calls Tryz.prog 5 #[.agg #[.int .i64 a0_0, .int .i64 a0_1, .slice A0_2 l0_2.length c0_2, .slice A0_3 l0_3.length c0_3, .slice A0_4 l0_4.length c0_4, .slice A0_5 l0_5.length c0_5], .int .i64 a1] w fun e w' => e = .returned (.int .i64 r) ∧ Below w.heap.size w w' := by
 have hu := Tryz.underlying25; have HB := zA (Below.refl w.heap.size w); unfold laws_szBinary.f at h; go_enter Tryz.func5, Tryz.ntmps5; obtain ⟨t2, h2, h⟩ := Option.bind_eq_some_iff.mp h; go_wp2_with fail; refine (laws_szIntSS.calls k A0_2 c0_2 l0_2 a1 t2 _ (zS hr0_2 (zz0q HB)) hc0_2 h2).mono ?_; rintro e w2 ⟨rfl, hd⟩; have hb := drawn_below hd; clear hd; have NX := zA (zM (o := .cells #[.int .i64 a0_0, .int .i64 a0_1, .slice A0_2 l0_2.length c0_2, .slice A0_3 l0_3.length c0_3, .slice A0_4 l0_4.length c0_4, .slice A0_5 l0_5.length c0_5] 25 (0, 0)) (heap_alloc_new w _) hb); have NB := zA (zG (zz0q HB) hb); clear hb HB; have BX := NX; have HB := NB; clear NX NB; have x0 : w2.cell? ⟨w.heap.size, 0, none⟩ = some (.int .i64 a0_0) := (zK BX.out 0).trans rfl; have x1 : w2.cell? ⟨w.heap.size, 1, none⟩ = some (.int .i64 a0_1) := (zK BX.out 1).trans rfl; have x2 : w2.cell? ⟨w.heap.size, 2, none⟩ = some (.slice A0_2 l0_2.length c0_2) := (zK BX.out 2).trans rfl; have x3 : w2.cell? ⟨w.heap.size, 3, none⟩ = some (.slice A0_3 l0_3.length c0_3) := (zK BX.out 3).trans rfl; have x4 : w2.cell? ⟨w.heap.size, 4, none⟩ = some (.slice A0_4 l0_4.length c0_4) := (zK BX.out 4).trans rfl; have x5 : w2.cell? ⟨w.heap.size, 5, none⟩ = some (.slice A0_5 l0_5.length c0_5) := (zK BX.out 5).trans rfl; by_cases d2 : t2 < 0
 · rw [if_pos d2] at h; obtain rfl := Option.some.inj h; have d2' : decide (t2 < 0) = true := decide_eq_true d2; clear d2; go_wp2; go_ret; exact ⟨rfl, zz0q HB⟩
 rw [if_neg d2] at h; have d2' : decide (t2 < 0) = false := decide_eq_false d2; clear d2; obtain ⟨t3, h3, h⟩ := Option.bind_eq_some_iff.mp h; go_wp2_with fail; clear x0 x1 x2 x3 x4 x5; refine (laws_szIntSS.calls k A0_3 c0_3 l0_3 t2 t3 _ (zS hr0_3 (zz0q HB)) hc0_3 h3).mono ?_; rintro e w3 ⟨rfl, hd⟩; have hb := drawn_below hd; clear hd; have NX := zA (zM BX.out hb); have NB := zA (zG (zz0q HB) hb); clear hb HB BX; have BX := NX; have HB := NB; clear NX NB; have x0 : w3.cell? ⟨w.heap.size, 0, none⟩ = some (.int .i64 a0_0) := (zK BX.out 0).trans rfl; have x1 : w3.cell? ⟨w.heap.size, 1, none⟩ = some (.int .i64 a0_1) := (zK BX.out 1).trans rfl; have x2 : w3.cell? ⟨w.heap.size, 2, none⟩ = some (.slice A0_2 l0_2.length c0_2) := (zK BX.out 2).trans rfl; have x3 : w3.cell? ⟨w.heap.size, 3, none⟩ = some (.slice A0_3 l0_3.length c0_3) := (zK BX.out 3).trans rfl; have x4 : w3.cell? ⟨w.heap.size, 4, none⟩ = some (.slice A0_4 l0_4.length c0_4) := (zK BX.out 4).trans rfl; have x5 : w3.cell? ⟨w.heap.size, 5, none⟩ = some (.slice A0_5 l0_5.length c0_5) := (zK BX.out 5).trans rfl; by_cases d3 : t3 < 0
 · rw [if_pos d3] at h; obtain rfl := Option.some.inj h; have d3' : decide (t3 < 0) = true := decide_eq_true d3; clear d3; go_wp2; go_ret; exact ⟨rfl, zz0q HB⟩
 rw [if_neg d3] at h; have d3' : decide (t3 < 0) = false := decide_eq_false d3; clear d3; obtain ⟨t4, h4, h⟩ := Option.bind_eq_some_iff.mp h; go_wp2_with fail; clear x0 x1 x2 x3 x4 x5; refine (laws_szIntS.calls A0_4 c0_4 l0_4 t3 t4 _ (zS hr0_4 (zz0q HB)) hc0_4 h4).mono ?_; rintro e w4 ⟨rfl, hd⟩; have hb := drawn_below hd; clear hd; have NX := zA (zM BX.out hb); have NB := zA (zG (zz0q HB) hb); clear hb HB BX; have BX := NX; have HB := NB; clear NX NB; have x0 : w4.cell? ⟨w.heap.size, 0, none⟩ = some (.int .i64 a0_0) := (zK BX.out 0).trans rfl; have x1 : w4.cell? ⟨w.heap.size, 1, none⟩ = some (.int .i64 a0_1) := (zK BX.out 1).trans rfl; have x2 : w4.cell? ⟨w.heap.size, 2, none⟩ = some (.slice A0_2 l0_2.length c0_2) := (zK BX.out 2).trans rfl; have x3 : w4.cell? ⟨w.heap.size, 3, none⟩ = some (.slice A0_3 l0_3.length c0_3) := (zK BX.out 3).trans rfl; have x4 : w4.cell? ⟨w.heap.size, 4, none⟩ = some (.slice A0_4 l0_4.length c0_4) := (zK BX.out 4).trans rfl; have x5 : w4.cell? ⟨w.heap.size, 5, none⟩ = some (.slice A0_5 l0_5.length c0_5) := (zK BX.out 5).trans rfl; by_cases d4 : t4 < 0
 · rw [if_pos d4] at h; obtain rfl := Option.some.inj h; have d4' : decide (t4 < 0) = true := decide_eq_true d4; clear d4; go_wp2; go_ret; exact ⟨rfl, zz0q HB⟩
 rw [if_neg d4] at h; have d4' : decide (t4 < 0) = false := decide_eq_false d4; clear d4; obtain ⟨t5, h5, h⟩ := Option.bind_eq_some_iff.mp h; go_wp2_with fail; clear x0 x1 x2 x3 x4 x5; refine (laws_szIntSS.calls k A0_5 c0_5 l0_5 t4 t5 _ (zS hr0_5 (zz0q HB)) hc0_5 h5).mono ?_; rintro e w5 ⟨rfl, hd⟩; have hb := drawn_below hd; clear hd; have NX := zA (zM BX.out hb); have NB := zA (zG (zz0q HB) hb); clear hb HB BX; have BX := NX; have HB := NB; clear NX NB; have x0 : w5.cell? ⟨w.heap.size, 0, none⟩ = some (.int .i64 a0_0) := (zK BX.out 0).trans rfl; have x1 : w5.cell? ⟨w.heap.size, 1, none⟩ = some (.int .i64 a0_1) := (zK BX.out 1).trans rfl; have x2 : w5.cell? ⟨w.heap.size, 2, none⟩ = some (.slice A0_2 l0_2.length c0_2) := (zK BX.out 2).trans rfl; have x3 : w5.cell? ⟨w.heap.size, 3, none⟩ = some (.slice A0_3 l0_3.length c0_3) := (zK BX.out 3).trans rfl; have x4 : w5.cell? ⟨w.heap.size, 4, none⟩ = some (.slice A0_4 l0_4.length c0_4) := (zK BX.out 4).trans rfl; have x5 : w5.cell? ⟨w.heap.size, 5, none⟩ = some (.slice A0_5 l0_5.length c0_5) := (zK BX.out 5).trans rfl; by_cases d5 : t5 < 0
 · rw [if_pos d5] at h; obtain rfl := Option.some.inj h; have d5' : decide (t5 < 0) = true := decide_eq_true d5; clear d5; go_wp2; go_ret; exact ⟨rfl, zz0q HB⟩
 rw [if_neg d5] at h; have d5' : decide (t5 < 0) = false := decide_eq_false d5; clear d5; obtain rfl := Option.some.inj h; go_wp2; go_ret; exact ⟨rfl, zz0q HB⟩
end Go.Proofs.YtkocahlifffgjaaGreat.P
namespace Go.Proofs.YtkocahlifffgjaaGreat.P
open Go.RowKit Go.Proofs.YtkocahlifffgjaaGreatW.PrintWords
set_option linter.unusedVariables false
set_option linter.unusedSimpArgs false
theorem w64 {x : Int} (h1 : -9223372036854775808 ≤ x) (h2 : x ≤ 9223372036854775807) : wrap64 x = x := by unfold wrap64; omega
theorem getD_drop {α : Type} (l : List α) (i : Nat) (d : α) (h : i < l.length) : l.drop i = l.getD i d :: l.drop (i + 1) := by
 rw [List.drop_eq_getElem_cons h]; congr 1; rw [List.getD_eq_getElem?_getD, List.getElem?_eq_getElem h]; rfl
theorem take_getD {α : Type} (l : List α) (i : Nat) (d : α) (h : i < l.length) : l.take (i + 1) = l.take i ++ [l.getD i d] := by
 rw [List.take_succ_eq_append_getElem h]; congr 2; rw [List.getD_eq_getElem?_getD, List.getElem?_eq_getElem h]; rfl
theorem set_mid {α : Type} (a b : List α) (i : Nat) (x y : α) (h : a.length = i) : (a ++ y :: b).set i x = a ++ x :: b := by
 subst h; rw [List.set_append_right _ _ (Nat.le_refl _), Nat.sub_self, List.set_cons_zero]
theorem rep_succ {α : Type} (n : Nat) (x : α) : List.replicate (n + 1) x = x :: List.replicate n x := rfl
end Go.Proofs.YtkocahlifffgjaaGreat.P
namespace Go.Proofs.YtkocahlifffgjaaGreat.P
open Go.RowKit Go.Proofs.YtkocahlifffgjaaGreatW.PrintWords Go.Proofs.YtkocahlifffgjaaGreatW.PrintLast Go.Proofs.YtkocahlifffgjaaGreatW.PrintMore
attribute [local go_sem] max2_int min2_int max_two min_two max_three min_three max_four min_four
set_option linter.unusedVariables false
set_option linter.unusedSimpArgs false
def laws_markIntS.l0 : Nat → List Int → Int → Int → Option (Int × List Int)
 | 0, _, _, _ => none
 | k + 1, x0, x1, x5 => if x5 < (x0.length : Int) then (if 0 ≤ x5 then (laws_markIntS.l0 k (x0.set (x5 : Int).toNat x1) (wrap64 (x1 + 1)) (wrap64 (x5 + 1))) else (none)) else (some (x1, x0))
def laws_markIntS.f (k : Nat) (l0 : List Int) (a1 : Int) : Option (Int × List Int) := laws_markIntS.l0 k l0 a1 0
set_option maxHeartbeats 8000000 in
set_option maxRecDepth 100000 in
theorem laws_markIntS.calls (k : Nat) (P0_ : Nat → Prop) (eJ : Value) (l0 : List Int) (a1 : Int) (r1 : Int) (r2 : List Int) (w0 w : World) (hB : Below w0.heap.size w0 w) (cj : Kd.R (Kd.int .i64) 3 w w0.heap.size P0_ eJ l0) (h : laws_markIntS.f k l0 a1 = some (r1, r2)) :
 Calls Tryz.prog 17 #[eJ, .int .i64 a1] w fun e w' => e = .returned (.int .i64 r1) ∧ Kd.R (Kd.int .i64) 3 w' w0.heap.size (fun k_ => (P0_ k_ ∨ w.heap.size ≤ k_)) eJ r2 ∧ Below w0.heap.size w0 w' ∧ Kept w w' (fun k_ => P0_ k_) := by
 have pq := zA (show Kd.R (Kd.int .i64) 3 w w0.heap.size (fun k_ => (P0_ k_ ∨ w.heap.size ≤ k_)) eJ l0 from Kd.R_mono cj (fun k_ hk => (.inl hk))); have HK := zA (Kept.refl w (fun k_ => P0_ k_)); have HW0 := zA hB.size; have HB := zA hB; clear hB; have H : (laws_markIntS.l0 k l0 a1 0) = some (r1, r2) := h; clear h; have H' := zA H; clear H; go_enter Tryz.func17, Tryz.ntmps17; go_wp2; go_loopg [1, 5] k (fun kq v1 v5 w' => ∃ (jt : List Int) (dX : Int) (ao : Int), v1 = .int .i64 dX ∧ v5 = .int .i64 ao ∧ Aside0 (laws_markIntS.l0 kq jt dX ao = some (r1, r2)) ∧ Aside0 (kq ≤ k) ∧ Aside0 (Kd.R (Kd.int .i64) 3 w' w0.heap.size (fun k_ => (P0_ k_ ∨ w.heap.size ≤ k_)) eJ jt) ∧ Aside0 (Kept w w' (fun k_ => P0_ k_)) ∧ Aside0 (Below w0.heap.size w0 w'))
 case atStart => exact ⟨(l0), (a1), (0), zz0y, zz0y, H', ⟨Nat.le_refl _⟩, ⟨zz0u pq⟩, ⟨zz0g HK⟩, ⟨zz0q HB⟩⟩
 case round =>
  clear H'; (try clear c1); (try clear p2); obtain ⟨jt, dX, ao, rfl, rfl, HA, bJ, ba, HK, HB⟩ := hrel; cases gk with
  | zero => exact absurd HA.out (by simp [laws_markIntS.l0])
  | succ k1 =>
   have H := HA.out; clear HA; simp only [laws_markIntS.l0] at H; by_cases c3 : ao < (jt.length : Int)
   · rw [if_pos c3] at H; have cM := decide_eq_true c3; clear c3; replace H := zIn H; obtain ⟨c4, H⟩ := H; have dr : decide (0 ≤ ao) = true := decide_eq_true c4; clear c4; obtain ⟨du, e_y⟩ : ∃ y_ : List Int, y_ = (jt.set (ao : Int).toNat dX) := ⟨_, rfl⟩
     replace H : (laws_markIntS.l0 k1 du (wrap64 (dX + 1)) (wrap64 (ao + 1))) = some (r1, r2) := zz02
     have eM := zA e_y; clear e_y; have H' := zA H; clear H; obtain ⟨Ao6, qV, qw⟩ := Kd.R_slice ba.out; subst qw; have p5 : 0 ≤ (ao : Int) := of_decide_eq_true zz1b; have q5 : (ao : Int) < ((jt.length : Int) : Int) := of_decide_eq_true zz1b; obtain ⟨go5, co5, qW, qX, gl5, cl5, HG5⟩ := Kd.R_form ba.out zz1g; (first | cases qW | (injection qW with ea_ en_ ec_; (first | subst ea_ | (injection ea_ with ea_; subst ea_)); subst ec_; clear en_)); have GB5 := zA qX; have GG5 := zA HG5; clear qX gl5 HG5; have HMgo5 := zA (show (P0_ go5 ∨ w.heap.size ≤ go5) from (ba.out.1 _ rfl)); obtain ⟨hx5_0, hf5_0⟩ := Kd.R_celln 0 ba.out (ao : Int) p5 q5; replace p5 := eq_true p5; replace q5 := eq_true q5; have qx := Kd.R_putg ba.out (ao : Int) dX; go_wp2_with (first | ((with_reducible refine gate_store (t := 3) (p := 15) rfl ?_); refine store_event (t := 3) (p := 15) (v := ?vo_w8) (w1 := (wr.setCell ⟨go5, (ao : Int).toNat, none⟩ (.int .i64 dX))) ?hg ?ho ?hn ?hr ?_; (case ho => rfl); (case hg => rfl); (case hn => rfl); (case hr => first | (go_simp; done) | (go_simp; rfl)); intro w8 hw; have hg : wr.grownBy w8 (some go5) := (by rw [hw]; exact qx.2); have hp_ : Kd.R (Kd.int .i64) 3 w8 w0.heap.size (fun k_ => (P0_ k_ ∨ w.heap.size ≤ k_)) (.slice (some ⟨go5, 0, none⟩) jt.length qV) du := (by rw [hw, eM.out]; exact qx.1); clear qx; replace HB := zA ((by rw [hw]; exact zE (HB.out) GB5.out : Below w0.heap.size w0 w8)); replace HK := zA (Kept.of_grown (S := (fun k_ => P0_ k_)) hg (zz0g HK) (fun k_ e_ => (ba.out.1 k_ e_))); replace ba := zA (hp_); clear hg hw hp_))
     go_roundg k1
     case measure => have := bJ.out; omega
     case rel => exact ⟨(du), (wrap64 (dX + 1)), (wrap64 (ao + 1)), zz0y, zz0y, H', ⟨zz18 bJ⟩, ⟨zz0u ba⟩, ⟨zz0g HK⟩, ⟨zz0q HB⟩⟩
   · rw [if_neg c3] at H; have cM := decide_eq_false c3; clear c3; simp only [Option.some.injEq, Prod.mk.injEq] at H; obtain ⟨rfl, rfl⟩ := H; obtain ⟨Ao9, qY, qj⟩ := Kd.R_slice ba.out; subst qj; go_wp2; go_ret; exact ⟨zz0r, zz0u ba, zz0q HB, zz0g HK⟩
def laws_heldIntS.l0 : Nat → List Int → Int → Int → Option (Int)
 | 0, _, _, _ => none
 | k + 1, x0, x1, x5 => if x5 < (x0.length : Int) then (if 0 ≤ x5 then (if (rd x0 x5) = x1 then (laws_heldIntS.l0 k x0 (wrap64 (x1 + 1)) (wrap64 (x5 + 1))) else (some (-1))) else (none)) else (some x1)
def laws_heldIntS.f (k : Nat) (l0 : List Int) (a1 : Int) : Option (Int) := laws_heldIntS.l0 k l0 a1 0
set_option maxHeartbeats 8000000 in
set_option maxRecDepth 100000 in
theorem laws_heldIntS.calls (k : Nat) (A0 : Option Addr) (c0 : Nat) (l0 : List Int) (a1 : Int) (r : Int) (w : World) (dy : Kd.C (Kd.int .i64) w A0 l0.length l0) (dz : l0.length ≤ c0) (h : laws_heldIntS.f k l0 a1 = some r) :
 Calls Tryz.prog 18 #[.slice A0 l0.length c0, .int .i64 a1] w fun e w' => e = .returned (.int .i64 r) ∧ Drawn0 w w' := by
 have dq := zA dy; have hZ := zA dz; clear dy dz; have H : (laws_heldIntS.l0 k l0 a1 0) = some r := h; clear h; have H' := zA H; clear H; go_enter Tryz.func18, Tryz.ntmps18; go_wp2; go_loopg [1, 5] k (fun kq v1 v5 w' => ∃ (dX : Int) (ao : Int), v1 = .int .i64 dX ∧ v5 = .int .i64 ao ∧ Aside0 (laws_heldIntS.l0 kq l0 dX ao = some r) ∧ Aside0 (kq ≤ k) ∧ Drawn0 w w')
 case atStart => exact ⟨(a1), (0), zz0y, zz0y, H', ⟨Nat.le_refl _⟩, zz0w⟩
 case round =>
  clear H'; (try clear c1); (try clear p2); obtain ⟨dX, ao, rfl, rfl, HA, bJ, ⟨m1, rfl⟩⟩ := hrel; cases gk with
  | zero => exact absurd HA.out (by simp [laws_heldIntS.l0])
  | succ k1 =>
   have H := HA.out; clear HA; simp only [laws_heldIntS.l0] at H; by_cases c3 : ao < (l0.length : Int)
   · rw [if_pos c3] at H; have cM := decide_eq_true c3; clear c3; replace H := zIn H; obtain ⟨c4, H⟩ := H; have dr : decide (0 ≤ ao) = true := decide_eq_true c4; clear c4; by_cases c5 : (rd l0 ao) = dX
     · rw [if_pos c5] at H; have ff : ((rd l0 ao) == dX) = true := beq_iff_eq.mpr c5; have n2 : ((rd l0 ao) != dX) = false := bne_eq_false_iff_eq.mpr c5; clear c5; have H' := zA H; clear H; have aN : 0 ≤ (ao : Int) := of_decide_eq_true zz1b; have aQ : ao < (l0.length : Int) := of_decide_eq_true zz1b; obtain ⟨bm, bH, be⟩ := Kd.at_int dq.out ao aN aQ; cases bH; replace aN := eq_true aN; replace aQ := eq_true aQ; go_wp2
       go_roundg k1
       case measure => have := bJ.out; omega
       case rel => exact ⟨(wrap64 (dX + 1)), (wrap64 (ao + 1)), zz0y, zz0y, H', ⟨zz18 bJ⟩, zz0w⟩
     · rw [if_neg c5] at H; have ff : ((rd l0 ao) == dX) = false := beq_eq_false_iff_ne.mpr c5; have n2 : ((rd l0 ao) != dX) = true := bne_iff_ne.mpr c5; obtain rfl := Option.some.inj H; have aN : 0 ≤ (ao : Int) := of_decide_eq_true zz1b; have aQ : ao < (l0.length : Int) := of_decide_eq_true zz1b; obtain ⟨bm, bH, be⟩ := Kd.at_int dq.out ao aN aQ; cases bH; replace aN := eq_true aN; replace aQ := eq_true aQ; go_wp2; go_ret; exact ⟨zz0y, zz0w⟩
   · rw [if_neg c3] at H; have cM := decide_eq_false c3; clear c3; obtain rfl := Option.some.inj H; go_wp2; go_ret; exact ⟨zz0y, zz0w⟩
end Go.Proofs.YtkocahlifffgjaaGreat.P
namespace Go.Proofs.YtkocahlifffgjaaGreat.P
open Go.RowKit Go.Proofs.YtkocahlifffgjaaGreatW.PrintWords Go.Proofs.YtkocahlifffgjaaGreatW.PrintLast Go.Proofs.YtkocahlifffgjaaGreatW.PrintMore
set_option linter.unusedVariables false
set_option linter.unusedSimpArgs false
def ramp (n : Int) : Nat → List Int
 | 0 => []
 | m + 1 => ramp n m ++ [n + m]
theorem ramp_len (n : Int) (m : Nat) : (ramp n m).length = m := by
 induction m with
 | zero => rfl
 | succ m ih => simp [ramp, ih]
theorem ramp_get (n : Int) (m i : Nat) (h : i < m) : (ramp n m).getD i 0 = n + i := by
 induction m with
 | zero => omega
 | succ m ih =>
  simp only [ramp, List.getD_eq_getElem?_getD]; by_cases e : i < m
  · rw [List.getElem?_append_left (by rw [ramp_len]; exact e), ← List.getD_eq_getElem?_getD]; exact ih e
  · obtain rfl : i = m := by omega
    rw [List.getElem?_append_right (by rw [ramp_len]; omega)]; simp [ramp_len]
theorem markIntS_loop (l : List Int) (hl : l.length ≤ 1152921504606846976) (n : Int) (hn : 0 ≤ n) (hn' : n ≤ 1152921504606846976) (d : Nat) : ∀ (k i : Nat), i ≤ l.length → l.length - i = d → d < k →
 laws_markIntS.l0 k (ramp n i ++ l.drop i) (n + i) i = some (n + (l.length : Int), ramp n l.length) := by
 induction d with
 | zero =>
  intro k i h1 hd hk; obtain ⟨k, rfl⟩ : ∃ m, k = m + 1 := ⟨k - 1, zz1g⟩
  obtain rfl : i = l.length := by omega
  simp only [laws_markIntS.l0]; rw [if_neg (by simp [ramp_len])]; simp
 | succ d ih =>
  intro k i h1 hd hk; obtain ⟨k, rfl⟩ : ∃ m, k = m + 1 := ⟨k - 1, zz1g⟩
  simp only [laws_markIntS.l0]; rw [if_pos (by simp [ramp_len]; omega), if_pos zz1g]; have e1 : wrap64 ((i : Int) + 1) = ((i + 1 : Nat) : Int) := by unfold wrap64; omega
  have e2 : wrap64 (n + (i : Int) + 1) = n + ((i + 1 : Nat) : Int) := by unfold wrap64; omega
  have e3 : (ramp n i ++ l.drop i).set (i : Int).toNat (n + i) = ramp n (i + 1) ++ l.drop (i + 1) := by
   rw [getD_drop l i 0 zz1g, Int.toNat_natCast, set_mid _ _ _ _ _ (ramp_len n i)]; simp [ramp]
  rw [e1, e2, e3]; exact ih k (i + 1) zz1g zz1g zz1g
theorem markIntS_eq (l : List Int) (hl : l.length ≤ 1152921504606846976) (n : Int) (hn : 0 ≤ n) (hn' : n ≤ 1152921504606846976) (k : Nat) (hk : l.length < k) : laws_markIntS.f k l n = some (n + (l.length : Int), ramp n l.length) := by
 have := markIntS_loop l hl n hn hn' l.length k 0 zz1g zz1g hk; unfold laws_markIntS.f; simpa [ramp] using this
theorem heldIntS_loop (m : Nat) (hm : m ≤ 1152921504606846976) (n : Int) (hn : 0 ≤ n) (hn' : n ≤ 1152921504606846976) (d : Nat) : ∀ (k i : Nat), i ≤ m → m - i = d → d < k →
 laws_heldIntS.l0 k (ramp n m) (n + i) i = some (n + (m : Int)) := by
 induction d with
 | zero =>
  intro k i h1 hd hk; obtain ⟨k, rfl⟩ : ∃ m, k = m + 1 := ⟨k - 1, zz1g⟩
  obtain rfl : i = m := by omega
  simp only [laws_heldIntS.l0]; rw [if_neg (by simp [ramp_len])]
 | succ d ih =>
  intro k i h1 hd hk; obtain ⟨k, rfl⟩ : ∃ m, k = m + 1 := ⟨k - 1, zz1g⟩
  simp only [laws_heldIntS.l0]; rw [if_pos (by simp [ramp_len]; omega), if_pos zz1g, if_pos (by unfold rd; simpa using ramp_get n m i zz1g)]; have e1 : wrap64 ((i : Int) + 1) = ((i + 1 : Nat) : Int) := by unfold wrap64; omega
  have e2 : wrap64 (n + (i : Int) + 1) = n + ((i + 1 : Nat) : Int) := by unfold wrap64; omega
  rw [e1, e2]; exact ih k (i + 1) zz1g zz1g zz1g
theorem heldIntS_eq (m : Nat) (hm : m ≤ 1152921504606846976) (n : Int) (hn : 0 ≤ n) (hn' : n ≤ 1152921504606846976) (k : Nat) (hk : m < k) : laws_heldIntS.f k (ramp n m) n = some (n + (m : Int)) := by
 have := heldIntS_loop m hm n hn hn' m k 0 zz1g zz1g hk; unfold laws_heldIntS.f; simpa using this
theorem markIntS_calls (P0_ : Nat → Prop) (u : Value) (l0 : List Int) (a1 : Int) (w0 w : World) (hB : Below w0.heap.size w0 w) (ho0 : Kd.R (Kd.int .i64) 3 w w0.heap.size P0_ u l0) (ha : 0 ≤ a1) (hs : a1 + (l0.length : Int) ≤ 1152921504606846976) :
 Calls Tryz.prog 17 #[u, .int .i64 a1] w fun e w' => e = .returned (.int .i64 (a1 + (l0.length : Int))) ∧ Kd.R (Kd.int .i64) 3 w' w0.heap.size P0_ u (ramp a1 l0.length) ∧ Below w0.heap.size w0 w' ∧ Kept w w' P0_ := by
 refine (laws_markIntS.calls (l0.length + 1) P0_ u l0 a1 _ _ w0 w hB ho0 (markIntS_eq l0 zz1g a1 ha zz1g (l0.length + 1) zz1g)).mono ?_; rintro e w' ⟨he, ho, hb, hk⟩; exact ⟨he, Kd.R_mono (Kd.R_tight rfl ho) (fun q hq => ho0.1 q hq.symm), hb, hk⟩
theorem heldIntS_calls (A : Option Addr) (c : Nat) (l : List Int) (a1 : Int) (w : World) (hr : Kd.C (Kd.int .i64) w A (ramp a1 l.length).length (ramp a1 l.length)) (hc : l.length ≤ c) (ha : 0 ≤ a1) (hs : a1 + (l.length : Int) ≤ 1152921504606846976) :
 Calls Tryz.prog 18 #[.slice A l.length c, .int .i64 a1] w fun e w' => e = .returned (.int .i64 (a1 + (l.length : Int))) ∧ Below w.heap.size w w' := by
 have H := laws_heldIntS.calls (l.length + 1) A c (ramp a1 l.length) a1 (a1 + (l.length : Int)) w hr (by rw [ramp_len]; exact hc) (heldIntS_eq l.length zz1g a1 ha zz1g (l.length + 1) zz1g); rw [ramp_len] at H; refine H.mono ?_; rintro e w' ⟨he, n, rfl⟩; exact ⟨he, zC (Below.refl _ _) n⟩
end Go.Proofs.YtkocahlifffgjaaGreat.P
namespace Go.Proofs.YtkocahlifffgjaaGreat.P
open Go.RowKit Go.Proofs.YtkocahlifffgjaaGreatW.PrintWords Go.Proofs.YtkocahlifffgjaaGreatW.PrintLast Go.Proofs.YtkocahlifffgjaaGreatW.PrintMore
attribute [local go_sem] max2_int min2_int max_two min_two max_three min_three max_four min_four
set_option linter.unusedVariables false
set_option linter.unusedSimpArgs false
def laws_heldIntSS.l0 : Nat → List (List Int) → Int → Int → Option (Int)
 | 0, _, _, _ => none
 | k + 1, x0, x1, x5 => if x5 < (x0.length : Int) then (if 0 ≤ x5 then ((laws_heldIntS.f k (rd_L1 x0 x5) x1).bind fun aH => (if aH < 0 then (some (-1)) else (laws_heldIntSS.l0 k x0 aH (wrap64 (x5 + 1))))) else (none)) else (some x1)
def laws_heldIntSS.f (k : Nat) (l0 : List (List Int)) (a1 : Int) : Option (Int) := laws_heldIntSS.l0 k l0 a1 0
end Go.Proofs.YtkocahlifffgjaaGreat.P
namespace Go.Proofs.YtkocahlifffgjaaGreat.P
open Go.RowKit Go.Proofs.YtkocahlifffgjaaGreatW.PrintWords Go.Proofs.YtkocahlifffgjaaGreatW.PrintLast Go.Proofs.YtkocahlifffgjaaGreatW.PrintMore
set_option linter.unusedVariables false
set_option linter.unusedSimpArgs false
def szRows : List (List Int) → Nat
 | [] => 0
 | r :: l => r.length + szRows l
def mkRows : List (List Int) → Int → List (List Int)
 | [], _ => []
 | r :: l, a => ramp a r.length :: mkRows l (a + r.length)
theorem mkRows_len (l : List (List Int)) : ∀ a, (mkRows l a).length = l.length := by
 induction l with
 | nil => intro a; rfl
 | cons r l ih => intro a; simp [mkRows, ih]
theorem szRows_append (l m : List (List Int)) : szRows (l ++ m) = szRows l + szRows m := by
 induction l with
 | nil => simp [szRows]
 | cons r l ih => simp only [List.cons_append, szRows, ih]; omega
theorem mkRows_append (l m : List (List Int)) : ∀ a, mkRows (l ++ m) a = mkRows l a ++ mkRows m (a + szRows l) := by
 induction l with
 | nil => intro a; simp [szRows, mkRows]
 | cons r l ih => intro a; simp only [List.cons_append, mkRows, szRows, ih]; congr 3; omega
theorem szRows_take (l : List (List Int)) (i : Nat) : szRows (l.take i) ≤ szRows l := by
 have := szRows_append (l.take i) (l.drop i); rw [List.take_append_drop] at this; omega
theorem szRows_small (l : List (List Int)) (B : Nat) (hs : ∀ r, r ∈ l → r.length ≤ B) : szRows l ≤ l.length * B := by
 induction l with
 | nil => simp [szRows]
 | cons r l ih =>
  have h0 := hs r zz1h; have h1 := ih (fun r hr => hs r (by simp [hr])); simp only [szRows, List.length_cons, Nat.add_mul]; omega
set_option maxHeartbeats 4000000 in
set_option maxRecDepth 100000 in
theorem markIntSS_calls (P0_ : Nat → Prop) (u : Value) (l0 : List (List Int)) (a1 : Int) (w0 w : World) (hB : Below w0.heap.size w0 w) (ho0 : Kd.S (Kd.slice 3 (Kd.int .i64)) 23 w w0.heap.size P0_ u l0)
 (ha : 0 ≤ a1) (hs : a1 + szRows l0 ≤ 1152921504606846976) (hlen : l0.length ≤ 1152921504606846976) :
 Calls Tryz.prog 35 #[u, .int .i64 a1] w fun e w' => e = .returned (.int .i64 (a1 + szRows l0)) ∧ Kd.S (Kd.slice 3 (Kd.int .i64)) 23 w' w0.heap.size P0_ u (mkRows l0 a1) ∧ Below w0.heap.size w0 w' ∧ Kept w w' P0_ := by
 have HO := zA ho0; have HB := zA hB; have HW := zA hB.size; have HS := zA hs; have HLEN := zA hlen; clear ho0 hB hs; go_enter Tryz.func35, Tryz.ntmps35; go_wp2; go_loopg [1, 5] l0.length (fun gg s1 s5 wr => ∃ kk : Nat, kk ≤ l0.length ∧ l0.length - kk ≤ gg ∧ s5 = .int .i64 kk ∧ s1 = .int .i64 (a1 + szRows (l0.take kk)) ∧ Aside0 (Kd.S (Kd.slice 3 (Kd.int .i64)) 23 wr w0.heap.size P0_ u (mkRows (l0.take kk) a1 ++ l0.drop kk)) ∧ Aside0 (Below w0.heap.size w0 wr) ∧ Aside0 (Kept w wr P0_))
 case atStart => exact ⟨0, Nat.zero_le _, zz1g, rfl, by simp [szRows], ⟨by simpa [mkRows] using HO.out⟩, HB, ⟨Kept.refl _ _⟩⟩
 case round =>
  clear HO HB; obtain ⟨kk, hkk, hg, rfl, rfl, HO, HB, HK⟩ := hrel; have hb1 := szRows_take l0 kk; by_cases hlt : kk < l0.length
  · obtain ⟨y, hy⟩ : ∃ y, y = l0.getD kk [] := ⟨_, rfl⟩
    have ed := getD_drop l0 kk [] hlt; have et := take_getD l0 kk [] hlt; rw [← hy] at ed et; have esz : szRows (l0.take (kk + 1)) = szRows (l0.take kk) + y.length := by rw [et, szRows_append]; simp [szRows]
    have hb2 := szRows_take l0 (kk + 1); have emk : ∀ z, z = ramp (a1 + szRows (l0.take kk)) y.length → (mkRows (l0.take kk) a1 ++ l0.drop kk).set kk z = mkRows (l0.take (kk + 1)) a1 ++ l0.drop (kk + 1) := by
     rintro z rfl; rw [ed, set_mid _ _ _ _ _ (by rw [mkRows_len, List.length_take]; omega), et, mkRows_append]; simp [mkRows]
    have elen : (mkRows (l0.take kk) a1 ++ l0.drop kk).length = l0.length := by rw [List.length_append, mkRows_len, List.length_take, List.length_drop]; omega
    have eget : (mkRows (l0.take kk) a1 ++ l0.drop kk).getD kk [] = y := by
     rw [ed, List.getD_eq_getElem?_getD, List.getElem?_append_right (by rw [mkRows_len, List.length_take]; omega), mkRows_len, List.length_take, Nat.min_eq_left hkk, Nat.sub_self]; rfl
    have EM := zA emk; have ES := zA esz; have LN := zA elen; clear emk esz ed et hy; obtain ⟨xs, hxs⟩ : ∃ xs, xs = mkRows (l0.take kk) a1 ++ l0.drop kk := ⟨_, rfl⟩
    rw [← hxs] at HO EM LN eget; obtain ⟨go, co, eo, gb, gl, cl, HG⟩ := Kd.S_form HO.out (by rw [LN.out]; omega); subst eo; obtain ⟨oki, c, hcl, hM, hcc, hfr, hoki, hH⟩ := Kd.S_elem HO.out [] (kk : Int) zz1g (by rw [LN.out]; omega); rw [Int.toNat_natCast, eget] at hM; obtain ⟨v1, rfl, hR⟩ := hM; have hx0 : wr.cell? ⟨go, kk, none⟩ = some v1 := by have := hcc 0 _ rfl; simpa [Kd.slice] using this
    obtain ⟨s, hs⟩ : ∃ s : Int, s = a1 + szRows (l0.take kk) := ⟨_, rfl⟩
    rw [← hs] at EM; rw [← hs]; have hs0 : 0 ≤ s := by omega
    have hs1 : s ≤ 1152921504606846976 := by have := HS.out; omega
    have hyl : s + y.length ≤ 1152921504606846976 := by have := HS.out; have := ES.out; omega
    have hsz : xs.length = l0.length := LN.out; have hd : decide (kk < xs.length) = true := decide_eq_true zz1g; have hlt2 : kk < xs.length := by omega
    have hmx : xs.length ≤ 9223372036854775807 := by have := HLEN.out; omega
    have GB := zA gb; have HH := zA hH; have HR := zA hR; have OI := zA hoki; have L := zA hlt; have SV := zA hs; have EMM := EM; clear hcl hcc hfr hH hR hoki gb gl HG eget hs hlt hxs EM hsz; go_wp2_with (go_at_call 17; refine (markIntS_calls oki v1 y s w0 _ (by repeat (first | exact HB.out | apply below_drew | apply zC)) (by repeat (first | exact HR.out | apply zV | apply zU)) hs0 hyl).mono ?_; rintro e w' ⟨rfl, ho, hb, hk⟩; have NB := zA hb; have NO := zA ho; have NK := zA hk; clear ho hb hk)
    go_roundg (l0.length - (kk + 1))
    case measure => have := L.out; omega
    case rel =>
     refine ⟨kk + 1, zz18 L, zz1g, zz1e, ?_, ?_, NB, ?_⟩
     · rw [ES.out]; have := SV.out; congr 1; omega
     · have H2 := Kd.H_kept HH.out NK.out (fun k _ hno hs => hno hs); have hR1 := HR.out.1; have H3 := Kd.H_back H2 (x' := ramp s y.length) ⟨v1, rfl, (Kd.R_mono (Kd.R_tight rfl NO.out) (fun q hq => hR1 q hq.symm))⟩ (fun _ h => h); rw [Int.toNat_natCast, EMM.out _ rfl] at H3; exact ⟨H3⟩
     · exact ⟨(HK.out).then_ NK.out (fun k hk => .inl (OI.out k hk).1)⟩
  · have e : kk = l0.length := by omega
    obtain ⟨xs, hxs⟩ : ∃ xs, xs = mkRows (l0.take kk) a1 ++ l0.drop kk := ⟨_, rfl⟩
    have hfin : xs = mkRows l0 a1 := by rw [hxs, e, List.take_of_length_le (Nat.le_refl _), List.drop_of_length_le (Nat.le_refl _), List.append_nil]
    have hsum : szRows (l0.take kk) = szRows l0 := by rw [e, List.take_of_length_le (Nat.le_refl _)]
    have hln : xs.length = l0.length := by rw [hfin, mkRows_len]
    rw [← hxs] at HO; obtain ⟨A, c, eu⟩ := Kd.R_slice (Kd.S_R HO.out); subst eu; have hd : decide (kk < xs.length) = false := decide_eq_false zz1g; have F := zA hfin; have SU := zA hsum; clear hfin hxs hlt e hln hsum; go_wp2; go_ret; refine ⟨by rw [← SU.out]; rfl, by rw [← F.out]; exact HO.out, HB.out, HK.out⟩
end Go.Proofs.YtkocahlifffgjaaGreat.P
namespace Go.Proofs.YtkocahlifffgjaaGreat.P
open Go.RowKit Go.Proofs.YtkocahlifffgjaaGreatW.PrintWords
set_option linter.unusedVariables false
set_option linter.unusedSimpArgs false
theorem eqIntS_loop (l : List Int) (hl : l.length ≤ 35184372088832) (d : Nat) : ∀ (k i : Nat), i ≤ l.length → l.length - i = d → d < k → laws_eqIntS.l0 k l l i = some true := by
 induction d with
 | zero =>
  intro k i h1 hd hk; obtain ⟨k, rfl⟩ : ∃ m, k = m + 1 := ⟨k - 1, zz1g⟩
  simp only [laws_eqIntS.l0]; rw [if_neg zz1g]
 | succ d ih =>
  intro k i h1 hd hk; obtain ⟨k, rfl⟩ : ∃ m, k = m + 1 := ⟨k - 1, zz1g⟩
  simp only [laws_eqIntS.l0]; rw [if_pos zz1g, if_pos zz1g, if_pos zz1g, if_pos trivial]; have : wrap64 ((i : Int) + 1) = ((i + 1 : Nat) : Int) := by unfold wrap64; omega
  rw [this]; exact ih k (i + 1) zz1g zz1g zz1g
theorem eqIntS_eq (l : List Int) (hl : l.length ≤ 35184372088832) (k : Nat) (hk : l.length < k) : laws_eqIntS.f k l l = some true := by
 unfold laws_eqIntS.f; rw [if_pos rfl]; exact eqIntS_loop l hl l.length k 0 zz1g zz1g hk
theorem eqIntS_ev (l : List Int) (hl : l.length ≤ 35184372088832) : Ev (fun k => laws_eqIntS.f k l l) true := ⟨l.length + 1, fun k hk => eqIntS_eq l zz1g k zz1g⟩
theorem eqIntSS_loop (l : List (List Int)) (hlen : l.length ≤ 1048576) (hs : ∀ i : Nat, i < l.length → (rd_L1 l i).length ≤ 1048576) (d : Nat) : ∀ (i : Nat), i ≤ l.length → l.length - i = d → Ev (fun k => laws_eqIntSS.l0 k l l i) true := by
 induction d with
 | zero =>
  intro i h1 hd; refine ⟨1, fun k hk => ?_⟩; dsimp only; obtain ⟨k, rfl⟩ : ∃ m, k = m + 1 := ⟨k - 1, zz1g⟩
  simp only [laws_eqIntSS.l0]; rw [if_neg zz1g]
 | succ d ih =>
  intro i h1 hd; obtain ⟨K, h⟩ := ih (i + 1) zz1g zz1g; dsimp only at h; have hb := hs i zz1g; refine ⟨K + (rd_L1 l i).length + 2, fun k hk => ?_⟩; dsimp only; obtain ⟨k, rfl⟩ : ∃ m, k = m + 1 := ⟨k - 1, zz1g⟩
  simp only [laws_eqIntSS.l0]; rw [if_pos zz1g, if_pos zz1g, if_pos zz1g, eqIntS_eq _ zz1g k zz1g]; simp only [Option.bind_some]; rw [if_pos trivial, show wrap64 ((i : Int) + 1) = ((i + 1 : Nat) : Int) by unfold wrap64; omega]; exact h k zz1g
theorem eqIntSS_ev (l : List (List Int)) (hlen : l.length ≤ 1048576) (hs : ∀ i : Nat, i < l.length → (rd_L1 l i).length ≤ 1048576) : Ev (fun k => laws_eqIntSS.f k l l) true := by
 obtain ⟨K, h⟩ := eqIntSS_loop l hlen hs l.length 0 zz1g zz1g; dsimp only at h; refine ⟨K, fun k hk => ?_⟩; dsimp only; unfold laws_eqIntSS.f; rw [if_pos rfl]; exact h k hk
end Go.Proofs.YtkocahlifffgjaaGreat.P
namespace Go.Proofs.YtkocahlifffgjaaGreat.P
open Go.RowKit Go.Proofs.YtkocahlifffgjaaGreatW.PrintWords Go.Proofs.YtkocahlifffgjaaGreatW.PrintLast Go.Proofs.YtkocahlifffgjaaGreatW.PrintMore
attribute [local go_sem] max2_int min2_int max_two min_two max_three min_three max_four min_four
set_option linter.unusedVariables false
set_option linter.unusedSimpArgs false
def laws_toIntS.l0 : Nat → List Int → List Int → Int → Option (List Int)
 | 0, _, _, _ => none
 | k + 1, x0, x3, x4 => if x4 < (x0.length : Int) then (if 0 ≤ x4 then (if x4 < (x3.length : Int) then (laws_toIntS.l0 k x0 (x3.set (x4 : Int).toNat (rd x0 x4)) (wrap64 (x4 + 1))) else (none)) else (none)) else (some x3)
def laws_toIntS.f (k : Nat) (l0 : List Int) : Option (List Int) := if 0 ≤ (l0.length : Int) then (if ((l0.length : Int) : Int).toNat ≤ 35184372088832 then (laws_toIntS.l0 k l0 (List.replicate ((l0.length : Int) : Int).toNat 0) 0) else (none)) else (none)
set_option maxHeartbeats 8000000 in
set_option maxRecDepth 100000 in
theorem laws_toIntS.calls (k : Nat) (A0 : Option Addr) (c0 : Nat) (l0 : List Int) (r : List Int) (w : World) (dy : Kd.C (Kd.int .i64) w A0 l0.length l0) (dz : l0.length ≤ c0) (h : laws_toIntS.f k l0 = some r) :
 Calls Tryz.prog 10 #[.slice A0 l0.length c0] w fun e w' => ∃ et : Value, e = .returned (et) ∧ Kd.R (Kd.int .i64) 3 w' w.heap.size (fun _ => True) et r ∧ Below w.heap.size w w' := by
 have dq := zA dy; have hZ := zA dz; clear dy dz; have HB := zA (Below.refl w.heap.size w); have H : (if 0 ≤ (l0.length : Int) then (if ((l0.length : Int) : Int).toNat ≤ 35184372088832 then (laws_toIntS.l0 k l0 (List.replicate ((l0.length : Int) : Int).toNat 0) 0) else (none)) else (none)) = some r := h; clear h; replace H := zIn H; obtain ⟨c2, H⟩ := H; have n3 := eq_true c2; have n4 : decide (0 ≤ (l0.length : Int)) = true := decide_eq_true c2; clear c2; replace H := zIn H; obtain ⟨c3, H⟩ := H; have cM := eq_true c3; have fo : decide (((l0.length : Int) : Int).toNat ≤ 35184372088832) = true := decide_eq_true c3; clear c3; obtain ⟨du, e_y⟩ : ∃ y_ : List Int, y_ = (List.replicate ((l0.length : Int) : Int).toNat 0) := ⟨_, rfl⟩
 replace H : (laws_toIntS.l0 k l0 du 0) = some r := zz02
 have eM := zA e_y; clear e_y; have H' := zA H; clear H; go_enter Tryz.func10, Tryz.ntmps10; go_wp2_with (first | ((with_reducible refine gate_dst (N := 7) rfl ?_); refine Kd.R_make (Kd.int .i64) _ 3 rfl (N := 7) rfl 23 _ _ rfl (l0.length : Int) rfl rfl Tryz.underlying23 (.int .i64 0) 8 info3 rfl zz1f zz1g 0 (ok := fun _ => True) (okp := fun _ => True) rfl (fun _ hk => hk) trivial (of_decide_eq_true zz1b) (Nat.le_trans (Nat.mul_le_mul_right _ (of_decide_eq_true zz1b : (l0.length : Int).toNat ≤ 35184372088832)) zz1g) (Below.refl _ _) (Nat.le_refl _) ?_; intro iT w4 iU hb hg_ hnew_; clear hg_ hnew_; (first | rw [← eM.out] at iU | (simp only [Int.reduceToNat] at iU; rw [← eM.out] at iU)); have fr := zA (Kd.R_lower iU (zF (zz0q HB))); replace HB := zA (zG (zz0q HB) hb); clear hb iU)); go_loopg [4] k (fun kq v4 w' => ∃ (ej : List Int) (bW : Int), v4 = .int .i64 bW ∧ Aside0 (laws_toIntS.l0 kq l0 ej bW = some r) ∧ Aside0 (kq ≤ k) ∧ Aside0 (Kd.R (Kd.int .i64) 3 w' w.heap.size (fun _ => True) iT ej) ∧ Aside0 (Below w.heap.size w w'))
 case atStart => exact ⟨(du), (0), zz0y, H', ⟨Nat.le_refl _⟩, ⟨zz0u fr⟩, ⟨zz0q HB⟩⟩
 case round =>
  clear H'; (try clear c1); (try clear c2); (try clear n3); (try clear n4); (try clear p2); (try clear c3); (try clear cM); (try clear fo); obtain ⟨ej, bW, rfl, HA, bJ, aA, HB⟩ := hrel; cases gk with
  | zero => exact absurd HA.out (by simp [laws_toIntS.l0])
  | succ k1 =>
   have H := HA.out; clear HA; simp only [laws_toIntS.l0] at H; by_cases c6 : bW < (l0.length : Int)
   · rw [if_pos c6] at H; have dt := decide_eq_true c6; clear c6; replace H := zIn H; obtain ⟨c7, H⟩ := H; have dA : decide (0 ≤ bW) = true := decide_eq_true c7; clear c7; replace H := zIn H; obtain ⟨c8, H⟩ := H; have dY : decide (bW < (ej.length : Int)) = true := decide_eq_true c8; clear c8; obtain ⟨eu, e_y⟩ : ∃ y_ : List Int, y_ = (ej.set (bW : Int).toNat (rd l0 bW)) := ⟨_, rfl⟩
     replace H : (laws_toIntS.l0 k1 l0 eu (wrap64 (bW + 1))) = some r := zz02
     have fL := zA e_y; clear e_y; have H' := zA H; clear H; have dv : 0 ≤ (bW : Int) := of_decide_eq_true zz1b; have dw : bW < (l0.length : Int) := of_decide_eq_true zz1b; obtain ⟨gy, fN, bK⟩ := Kd.at_int dq.out bW dv dw; cases fN; replace bK := (HB.out.cell (World.block_lt_of_cell? w _ bK)).trans bK; replace dv := eq_true dv; replace dw := eq_true dw; have p9 : 0 ≤ (bW : Int) := of_decide_eq_true zz1b; have q9 : (bW : Int) < ((ej.length : Int) : Int) := of_decide_eq_true zz1b; obtain ⟨go9, qY, qj, qZ, gl9, cl9, HG9⟩ := Kd.R_form aA.out zz1g; (first | cases qj | (injection qj with ea_ en_ ec_; (first | subst ea_ | (injection ea_ with ea_; subst ea_)); subst ec_; clear en_)); have GB9 := zA qZ; have GG9 := zA HG9; clear qZ gl9 HG9; obtain ⟨hx9_0, hf9_0⟩ := Kd.R_celln 0 aA.out (bW : Int) p9 q9; replace p9 := eq_true p9; replace q9 := eq_true q9; have n5 := Kd.R_putg aA.out (bW : Int) (rd l0 bW); go_wp2_with (first | ((with_reducible refine gate_store (t := 3) (p := 20) rfl ?_); refine store_event (t := 3) (p := 20) (v := ?vo_w11) (w1 := (wr.setCell ⟨go9, (bW : Int).toNat, none⟩ (.int .i64 (rd l0 bW)))) ?hg ?ho ?hn ?hr ?_; (case ho => rfl); (case hg => rfl); (case hn => rfl); (case hr => first | (go_simp; done) | (go_simp; rfl)); intro ib hw; have hg : wr.grownBy ib (some go9) := (by rw [hw]; exact n5.2); have hp_ : Kd.R (Kd.int .i64) 3 ib w.heap.size (fun _ => True) (.slice (some ⟨go9, 0, none⟩) ej.length qY) eu := (by rw [hw, fL.out]; exact n5.1); clear n5; replace aA := zA (hp_); replace HB := zA ((by rw [hw]; exact zE (HB.out) GB9.out : Below w.heap.size w ib)); clear hg hw hp_))
     go_roundg k1
     case measure => have := bJ.out; omega
     case rel => exact ⟨(eu), (wrap64 (bW + 1)), zz0y, H', ⟨zz18 bJ⟩, ⟨zz0u aA⟩, ⟨zz0q HB⟩⟩
   · rw [if_neg c6] at H; have dt := decide_eq_false c6; clear c6; obtain rfl := Option.some.inj H; go_wp2; go_ret; exact ⟨_, zz0r, zz0u aA, zz0q HB⟩
end Go.Proofs.YtkocahlifffgjaaGreat.P
namespace Go.Proofs.YtkocahlifffgjaaGreat.P
open Go.RowKit Go.Proofs.YtkocahlifffgjaaGreatW.PrintWords
set_option linter.unusedVariables false
set_option linter.unusedSimpArgs false
theorem toIntS_loop (l : List Int) (hl : l.length ≤ 35184372088832) (d : Nat) : ∀ (k i : Nat), i ≤ l.length → l.length - i = d → d < k →
 laws_toIntS.l0 k l (l.take i ++ List.replicate d 0) i = some l := by
 induction d with
 | zero =>
  intro k i h1 hd hk; obtain ⟨k, rfl⟩ : ∃ m, k = m + 1 := ⟨k - 1, zz1g⟩
  simp only [laws_toIntS.l0]; rw [if_neg zz1g]; rw [List.take_of_length_le zz1g]; simp
 | succ d ih =>
  intro k i h1 hd hk; obtain ⟨k, rfl⟩ : ∃ m, k = m + 1 := ⟨k - 1, zz1g⟩
  simp only [laws_toIntS.l0]; rw [if_pos zz1g, if_pos zz1g, if_pos (by simp; omega)]; have e1 : wrap64 ((i : Int) + 1) = ((i + 1 : Nat) : Int) := by unfold wrap64; omega
  have e2 : (l.take i ++ List.replicate (d + 1) 0).set (i : Int).toNat (rd l i) = l.take (i + 1) ++ List.replicate d 0 := by
   rw [rep_succ, Int.toNat_natCast, set_mid _ _ _ _ _ zz16, take_getD l i 0 zz1g]; simp [rd]
  rw [e1, e2]; exact ih k (i + 1) zz1g zz1g zz1g
theorem toIntS_eq (l : List Int) (hl : l.length ≤ 35184372088832) (k : Nat) (hk : l.length < k) : laws_toIntS.f k l = some l := by
 unfold laws_toIntS.f; rw [if_pos zz1g, if_pos zz1g, Int.toNat_natCast]; have := toIntS_loop l hl l.length k 0 zz1g zz1g hk; simpa using this
theorem toIntS_ev (l : List Int) (hl : l.length ≤ 1048576) : Ev (fun k => laws_toIntS.f k l) l := ⟨l.length + 1, fun k hk => toIntS_eq l zz1g k zz1g⟩
theorem szIntS_eq (l : List Int) (a : Int) (ha : a ≤ 1048576) (h0 : 0 ≤ a) (hl : l.length ≤ 9223372036854775807) : laws_szIntS.f l a = some (if a - l.length < 0 then -1 else a - l.length) := by
 unfold laws_szIntS.f; rw [w64 zz1g zz1g]; by_cases h : a - (l.length : Int) < 0
 · rw [if_pos h, if_pos h]
 · rw [if_neg h, if_neg h]
end Go.Proofs.YtkocahlifffgjaaGreat.P
namespace Go.Proofs.YtkocahlifffgjaaGreat.P
open Go.RowKit Go.Proofs.YtkocahlifffgjaaGreatW.PrintWords Go.Proofs.YtkocahlifffgjaaGreatW.PrintLast Go.Proofs.YtkocahlifffgjaaGreatW.PrintMore
attribute [local go_sem] max2_int min2_int max_two min_two max_three min_three max_four min_four
set_option linter.unusedVariables false
set_option linter.unusedSimpArgs false
def laws_toIntSS.l0 : Nat → List (List Int) → List (List Int) → Int → Option ((List (List Int)))
 | 0, _, _, _ => none
 | k + 1, x0, x3, x4 => if x4 < (x0.length : Int) then (if 0 ≤ x4 then ((laws_toIntS.f k (rd_L1 x0 x4)).bind fun cY => (if x4 < (x3.length : Int) then (laws_toIntSS.l0 k x0 (x3.set (x4 : Int).toNat cY) (wrap64 (x4 + 1))) else (none))) else (none)) else (some x3)
def laws_toIntSS.f (k : Nat) (l0 : List (List Int)) : Option ((List (List Int))) := if 0 ≤ (l0.length : Int) then (if ((l0.length : Int) : Int).toNat ≤ 11728124029610 then (laws_toIntSS.l0 k l0 (List.replicate ((l0.length : Int) : Int).toNat []) 0) else (none)) else (none)
set_option maxHeartbeats 8000000 in
set_option maxRecDepth 100000 in
theorem laws_toIntSS.calls (k : Nat) (A0 : Option Addr) (c0 : Nat) (l0 : List (List Int)) (r : List (List Int)) (w : World) (dy : Kd.C (Kd.slice 3 (Kd.int .i64)) w A0 l0.length l0) (dz : l0.length ≤ c0) (h : laws_toIntSS.f k l0 = some r) :
 Calls Tryz.prog 28 #[.slice A0 l0.length c0] w fun e w' => ∃ et : Value, e = .returned (et) ∧ Kd.S (Kd.slice 3 (Kd.int .i64)) 23 w' w.heap.size (fun _ => True) et r ∧ Below w.heap.size w w' := by
 have dq := zA dy; have hZ := zA dz; clear dy dz; have HB := zA (Below.refl w.heap.size w); have H : (if 0 ≤ (l0.length : Int) then (if ((l0.length : Int) : Int).toNat ≤ 11728124029610 then (laws_toIntSS.l0 k l0 (List.replicate ((l0.length : Int) : Int).toNat []) 0) else (none)) else (none)) = some r := h; clear h; replace H := zIn H; obtain ⟨c2, H⟩ := H; have n3 := eq_true c2; have n4 : decide (0 ≤ (l0.length : Int)) = true := decide_eq_true c2; clear c2; replace H := zIn H; obtain ⟨c3, H⟩ := H; have cM := eq_true c3; have fo : decide (((l0.length : Int) : Int).toNat ≤ 11728124029610) = true := decide_eq_true c3; clear c3; obtain ⟨du, e_y⟩ : ∃ y_ : List (List Int), y_ = (List.replicate ((l0.length : Int) : Int).toNat []) := ⟨_, rfl⟩
 replace H : (laws_toIntSS.l0 k l0 du 0) = some r := zz02
 have eM := zA e_y; clear e_y; have H' := zA H; clear H; go_enter Tryz.func28, Tryz.ntmps28; go_wp2_with (first | ((with_reducible refine gate_dst (N := 7) rfl ?_); refine Kd.S_make (Kd.slice 3 (Kd.int .i64)) _ 23 rfl (N := 7) rfl 22 _ _ rfl (l0.length : Int) rfl rfl Tryz.underlying22 (.slice none 0 0) 24 info23 rfl zz1f zz1g [] (ok := fun _ => True) (okp := fun _ => True) ⟨_, rfl, Kd.R_nil _ _ _ _ _⟩ (fun _ hk => hk) trivial (of_decide_eq_true zz1b) (Nat.le_trans (Nat.mul_le_mul_right _ (of_decide_eq_true zz1b : (l0.length : Int).toNat ≤ 11728124029610)) zz1g) (Below.refl _ _) (Nat.le_refl _) ?_; intro iT w4 iU hb hg_ hnew_; clear hg_ hnew_; (first | rw [← eM.out] at iU | (simp only [Int.reduceToNat] at iU; rw [← eM.out] at iU)); have fr := zA (Kd.S_lower iU (zF (zz0q HB))); replace HB := zA (zG (zz0q HB) hb); clear hb iU)); go_loopg [4] k (fun kq v4 w' => ∃ (ej : List (List Int)) (bW : Int), v4 = .int .i64 bW ∧ Aside0 (laws_toIntSS.l0 kq l0 ej bW = some r) ∧ Aside0 (kq ≤ k) ∧ Aside0 (Kd.S (Kd.slice 3 (Kd.int .i64)) 23 w' w.heap.size (fun _ => True) iT ej) ∧ Aside0 (Below w.heap.size w w'))
 case atStart => exact ⟨(du), (0), zz0y, H', ⟨Nat.le_refl _⟩, ⟨zz0n fr⟩, ⟨zz0q HB⟩⟩
 case round =>
  clear H'; (try clear c2); (try clear n3); (try clear n4); (try clear p2); (try clear c3); (try clear cM); (try clear fo); obtain ⟨ej, bW, rfl, HA, bJ, aA, HB⟩ := hrel; cases gk with
  | zero => exact absurd HA.out (by simp [laws_toIntSS.l0])
  | succ k1 =>
   have H := HA.out; clear HA; simp only [laws_toIntSS.l0] at H; by_cases c6 : bW < (l0.length : Int)
   · rw [if_pos c6] at H; have dt := decide_eq_true c6; clear c6; replace H := zIn H; obtain ⟨c7, H⟩ := H; have dA : decide (0 ≤ bW) = true := decide_eq_true c7; clear c7; replace H := Option.bind_eq_some_iff.mp H; obtain ⟨cY, jZ, H⟩ := H; have A8 := zA jZ; clear jZ; replace H := zIn H; obtain ⟨c9, H⟩ := H; have eN : decide (bW < (ej.length : Int)) = true := decide_eq_true c9; clear c9; obtain ⟨dR, e_y⟩ : ∃ y_ : List (List Int), y_ = (ej.set (bW : Int).toNat cY) := ⟨_, rfl⟩
     replace H : (laws_toIntSS.l0 k1 l0 dR (wrap64 (bW + 1))) = some r := zz02
     have g4 := zA e_y; clear e_y; have H' := zA H; clear H; have dv : 0 ≤ (bW : Int) := of_decide_eq_true zz1b; have dw : bW < (l0.length : Int) := of_decide_eq_true zz1b; obtain ⟨gy, gh, gi, fN, bK, cA, cB⟩ := at_L1 dq.out bW dv dw; cases fN; replace bK := (HB.out.cell (World.block_lt_of_cell? w _ bK)).trans bK; have dk := zA cB; have fx := zA cA; clear cB cA; replace dv := eq_true dv; replace dw := eq_true dw; go_wp2_with (first | ((with_reducible refine gate_callee (f := 10) rfl ?_); refine goesL_ (some 20) rfl rfl Tryz.func10 zz1c rfl #[.slice gh (rd_L1 l0 bW).length gi] rfl zz0d ?_; (with_reducible refine (laws_toIntS.calls k1 _ _ (rd_L1 l0 bW) cY _ ?aj ?ak A8.out).mono ?_); (case aj => exact (zz0t dk HB)); (case ak => exact fx.out); rintro e ib ⟨ju, rfl, cj, hb⟩; refine ⟨_, rfl, ?_⟩; replace aA := zA (Kd.S_elder' (zz0n aA) (Kd.R_base cj) hb); have dN := zA (Kd.R_lower cj (zF (zz0q HB))); replace HB := zA (zG (zz0q HB) hb); (try clear hb); (try clear hb2); (try clear hk); (try clear hi); (try clear cj); obtain ⟨j1, j4, eo106⟩ := Kd.R_slice dN.out; subst eo106; have iP : 0 ≤ (bW : Int) := of_decide_eq_true zz1b; have iQ : (bW : Int) < ((ej.length : Int) : Int) := of_decide_eq_true zz1b; obtain ⟨go10, my, mz, pr, gl10, cl10, HG10⟩ := Kd.S_form aA.out zz1g; (first | cases mz | (injection mz with ea_ en_ ec_; (first | subst ea_ | (injection ea_ with ea_; subst ea_)); subst ec_; clear en_)); have GB10 := zA pr; have GG10 := zA HG10; clear pr gl10 HG10; obtain ⟨_, ce10, hcl10, ps, na, hfr10, _, _⟩ := Kd.S_elem aA.out [] (bW : Int) iP iQ; obtain ⟨ve10_0, rfl, ge10_0⟩ := ps; have hx10_0 := na 0 _ rfl; have hf10_0 := hfr10 0; (try simp only [show ((Kd.slice 3 (Kd.int .i64))).sz = 1 from rfl, Nat.mul_one, Nat.add_zero] at hx10_0); (try simp only [show ((Kd.slice 3 (Kd.int .i64))).sz = 1 from rfl, Nat.mul_one, Nat.add_zero] at hf10_0); clear hcl10 na hfr10; (try clear ps); replace iP := eq_true iP; replace iQ := eq_true iQ; have n_ := zA (Kd.S_mono (ok' := (fun k_ => some k_ ≠ ((.slice j1 cY.length j4) : Value).ownBlock)) aA.out (fun k_ hk => hk.2)); clear aA; have aA := n_; clear n_; have HX12 := zA (show Kd.S (Kd.slice 3 (Kd.int .i64)) 23 ib w.heap.size (fun k_ => ((fun _ => True)) k_ ∧ ¬ ((fun k_ => some k_ = ((.slice j1 cY.length j4) : Value).ownBlock)) k_) (.slice (some ⟨go10, 0, none⟩) ej.length my) ej from (by (with_reducible repeat (first | apply Kd.S_alloc | apply Kd.S_drewN | apply Kd.S_drew)); exact Kd.S_mono aA.out (fun k_ hk => ⟨trivial, fun e_ => hk e_⟩))); obtain ⟨oki12, ce12, hcl12, pt, nb, hfr12, hoki12, hH12⟩ := Kd.S_elem HX12.out [] (bW : Int) (of_decide_eq_true zz1b) (by have h_ : (bW : Int) < ((ej.length : Int) : Int) := of_decide_eq_true zz1b; first | exact h_ | (have e_ := (Kd.S_reads' aA.out).1; omega) | simpa using h_); obtain ⟨ve12_0, rfl, ge12_0⟩ := pt; have mA := Kd.S_seg hH12 (of_decide_eq_true zz1b) (by have h_ : (bW : Int) < ((ej.length : Int) : Int) := of_decide_eq_true zz1b; first | exact h_ | (have e_ := (Kd.S_reads' aA.out).1; omega) | simpa using h_) (seg := [(.slice j1 cY.length j4)]) (j := 0) (show 1 ≤ 1 from by decide) (x' := cY) (Kd.M_row (Kd.R_mono (Kd.R_tight rfl (Kd.R_mono (ok' := fun k_ => ((fun _ => True)) k_ ∧ k_ ≠ go10) (Kd.R_apart' (dN.out) (Kd.S_typed aA.out) zz1f) (fun k_ hk => ⟨trivial, fun e_ => (hk.2) (by rw [e_]; rfl)⟩))) (fun _ h_ => Or.inr (h_)))) (fun _ hk => hk) (fun k_ hk_ => ((Kd.R_mono (ok' := fun k_ => ((fun _ => True)) k_ ∧ k_ ≠ go10) (Kd.R_apart' (dN.out) (Kd.S_typed aA.out) zz1f) (fun k_ hk => ⟨trivial, fun e_ => (hk.2) (by rw [e_]; rfl)⟩))).1 k_ hk_.symm); have hx12_0 := nb 0 _ rfl; (try simp only [show ((Kd.slice 3 (Kd.int .i64))).sz = 1 from rfl, Nat.mul_one, Nat.add_zero] at hx12_0); have hf12_0 := hfr12 0; (try simp only [show ((Kd.slice 3 (Kd.int .i64))).sz = 1 from rfl, Nat.mul_one, Nat.add_zero] at hf12_0); clear hcl12 nb hfr12 hoki12 hH12; (try clear pt); (try simp only [show ((Kd.slice 3 (Kd.int .i64))).sz = 1 from rfl, Nat.mul_one, Nat.add_zero] at mA)) | ((with_reducible refine gate_store (t := 23) (p := 21) rfl ?_); refine store_event (t := 23) (p := 21) (v := ?vo_w13) (w1 := (ib.setCell ⟨go10, (bW : Int).toNat, none⟩ ((.slice j1 cY.length j4)))) ?hg ?ho ?hn ?hr ?_; (case ho => rfl); (case hg => rfl); (case hn => rfl); (case hr => first | (go_simp; done) | (go_simp; rfl)); intro mu hw; have hg : ib.grownBy mu (some go10) := (by rw [hw]; exact mA.2); have hp_ : Kd.S (Kd.slice 3 (Kd.int .i64)) 23 mu w.heap.size (fun _ => True) (.slice (some ⟨go10, 0, none⟩) ej.length my) dR := (by rw [hw, g4.out]; exact mA.1); clear mA; replace aA := zA (hp_); replace HB := zA ((by rw [hw]; exact zE (HB.out) GB10.out : Below w.heap.size w mu)); clear dN; clear hg hw hp_))
     go_roundg k1
     case measure => have := bJ.out; omega
     case rel => exact ⟨(dR), (wrap64 (bW + 1)), zz0y, H', ⟨zz18 bJ⟩, ⟨zz0n aA⟩, ⟨zz0q HB⟩⟩
   · rw [if_neg c6] at H; have dt := decide_eq_false c6; clear c6; obtain rfl := Option.some.inj H; go_wp2; go_ret; exact ⟨_, zz0r, zz0n aA, zz0q HB⟩
end Go.Proofs.YtkocahlifffgjaaGreat.P
namespace Go.Proofs.YtkocahlifffgjaaGreat.P
open Go.RowKit Go.Proofs.YtkocahlifffgjaaGreatW.PrintWords
set_option linter.unusedVariables false
set_option linter.unusedSimpArgs false
def smallL (l : List (List Int)) : Prop := l.length ≤ 1048576 ∧ ∀ i : Nat, i < l.length → (rd_L1 l i).length ≤ 1048576
theorem szIntSS_loop (l : List (List Int)) (hl : l.length ≤ 9223372036854775807) (hr : ∀ i : Nat, i < l.length → (rd_L1 l i).length ≤ 9223372036854775807) (d : Nat) : ∀ (i : Nat) (a : Int), 0 ≤ a → a ≤ 1048576 → i ≤ l.length → l.length - i = d →
 ∃ t, Ev (fun k => laws_szIntSS.l0 k l a i) t ∧ t ≤ 1048576 ∧ (0 ≤ t → ∀ j : Nat, i ≤ j → j < l.length → (rd_L1 l j).length ≤ 1048576) := by
 induction d with
 | zero =>
  intro i a h0 h1 h2 hd; refine ⟨a, ⟨1, fun k hk => ?_⟩, h1, fun _ j h3 h4 => by omega⟩; dsimp only; obtain ⟨k, rfl⟩ : ∃ m, k = m + 1 := ⟨k - 1, zz1g⟩
  simp only [laws_szIntSS.l0]; rw [if_neg zz1g]
 | succ d ih =>
  intro i a h0 h1 h2 hd; have hi : i < l.length := by omega
  have hz := szIntS_eq (rd_L1 l i) a h1 h0 (hr i hi); by_cases hs : a - ((rd_L1 l i).length : Int) < 0
  · rw [if_pos hs] at hz; refine ⟨-1, ⟨1, fun k hk => ?_⟩, zz1g, fun h => by omega⟩; dsimp only; obtain ⟨k, rfl⟩ : ∃ m, k = m + 1 := ⟨k - 1, zz1g⟩
    simp only [laws_szIntSS.l0]; rw [if_pos zz1g, if_pos zz1g, hz]; rfl
  · rw [if_neg hs] at hz; obtain ⟨t, ⟨K, ht⟩, hle, hsm⟩ := ih (i + 1) (a - (rd_L1 l i).length) zz1g zz1g zz1g zz1g; dsimp only at ht; refine ⟨t, ⟨K + 1, fun k hk => ?_⟩, hle, fun h j h3 h4 => ?_⟩
    · dsimp only; obtain ⟨k, rfl⟩ : ∃ m, k = m + 1 := ⟨k - 1, zz1g⟩
      simp only [laws_szIntSS.l0]; rw [if_pos zz1g, if_pos zz1g, hz]; simp only [Option.bind_some]; rw [if_neg hs, w64 zz1g zz1g]; exact ht k zz1g
    · by_cases e : j = i
      · subst e; omega
      · exact hsm h j zz1g h4
theorem szIntSS_fr (l : List (List Int)) (hl : l.length ≤ 9223372036854775807) (hr : ∀ i : Nat, i < l.length → (rd_L1 l i).length ≤ 9223372036854775807) (a : Int) (ha : 0 ≤ a) (ha2 : a ≤ 1048576) :
 ∃ t, Ev (fun k => laws_szIntSS.f k l a) t ∧ t ≤ 1048576 ∧ (0 ≤ t → smallL l) := by
 by_cases hs : a - l.length < 0
 · refine ⟨-1, ⟨0, fun k hk => ?_⟩, zz1g, fun h => by omega⟩; dsimp only; unfold laws_szIntSS.f; rw [w64 zz1g zz1g, if_pos hs]
 · obtain ⟨t, ⟨K, ht⟩, hle, hsm⟩ := szIntSS_loop l hl hr l.length 0 (a - l.length) zz1g zz1g zz1g zz1g; dsimp only at ht; refine ⟨t, ⟨K, fun k hk => ?_⟩, hle, fun h => ⟨zz1g, fun j hj => hsm h j zz1g hj⟩⟩; dsimp only; unfold laws_szIntSS.f; rw [w64 zz1g zz1g, if_neg hs]; exact ht k hk
def fitL (l : List (List Int)) : Prop := l.length ≤ 9223372036854775807 ∧ ∀ i : Nat, i < l.length → (rd_L1 l i).length ≤ 9223372036854775807
theorem reads_fitL {w : World} {A : Option Addr} {l : List (List Int)} (h : Kd.C (Kd.slice 3 (Kd.int .i64)) w A l.length l) : fitL l := by
 refine ⟨h.2.1, fun i hi => ?_⟩; obtain ⟨ad, A1, c1, _, _, _, hC⟩ := at_L1 h (i : Int) zz1g zz1g; exact hC.2.1
theorem toIntSS_loop (l : List (List Int)) (hs : smallL l) (d : Nat) : ∀ (i : Nat), i ≤ l.length → l.length - i = d → Ev (fun k => laws_toIntSS.l0 k l (l.take i ++ List.replicate d []) i) l := by
 induction d with
 | zero =>
  intro i h1 hd; refine ⟨1, fun k hk => ?_⟩; dsimp only; obtain ⟨k, rfl⟩ : ∃ m, k = m + 1 := ⟨k - 1, zz1g⟩
  simp only [laws_toIntSS.l0]; rw [if_neg zz1g]; rw [List.take_of_length_le zz1g]; simp
 | succ d ih =>
  intro i h1 hd; have hb := hs.1; obtain ⟨K1, ht⟩ := toIntS_ev _ (hs.2 i zz1g); dsimp only at ht; obtain ⟨K2, hi⟩ := ih (i + 1) zz1g zz1g; dsimp only at hi; refine ⟨K1 + K2 + 1, fun k hk => ?_⟩; dsimp only; obtain ⟨k, rfl⟩ : ∃ m, k = m + 1 := ⟨k - 1, zz1g⟩
  simp only [laws_toIntSS.l0]; rw [if_pos zz1g, if_pos zz1g, ht k zz1g]; simp only [Option.bind_some]; rw [if_pos (by simp; omega)]; have e1 : wrap64 ((i : Int) + 1) = ((i + 1 : Nat) : Int) := by unfold wrap64; omega
  have e2 : (l.take i ++ List.replicate (d + 1) []).set (i : Int).toNat (rd_L1 l i) = l.take (i + 1) ++ List.replicate d [] := by
   rw [rep_succ, Int.toNat_natCast, set_mid _ _ _ _ _ zz16, take_getD l i [] zz1g]; simp [rd_L1]
  rw [e1, e2]; exact hi k zz1g
theorem toIntSS_ev (l : List (List Int)) (hs : smallL l) : Ev (fun k => laws_toIntSS.f k l) l := by
 obtain ⟨K, h⟩ := toIntSS_loop l hs l.length 0 zz1g zz1g; dsimp only at h; have hb := hs.1; refine ⟨K, fun k hk => ?_⟩; dsimp only; unfold laws_toIntSS.f; rw [if_pos zz1g, if_pos zz1g, Int.toNat_natCast]; have := h k hk; rw [List.take_zero, List.nil_append] at this; exact this
end Go.Proofs.YtkocahlifffgjaaGreat.P
namespace Go.Proofs.YtkocahlifffgjaaGreat.P
open Go.RowKit Go.Proofs.YtkocahlifffgjaaGreatW.PrintWords Go.Proofs.YtkocahlifffgjaaGreatW.PrintLast Go.Proofs.YtkocahlifffgjaaGreatW.PrintMore
attribute [local go_sem] max2_int min2_int max_two min_two max_three min_three max_four min_four
set_option linter.unusedVariables false
set_option linter.unusedSimpArgs false
def laws_toBinary.f (k : Nat) (ae : Int) (al : Int) (ab : List (List Int)) (af : List (List Int)) (ai : List Int) (ah : List (List Int)) : Option (Int × Int × (List (List Int)) × (List (List Int)) × List Int × (List (List Int))) := (laws_toIntSS.f k ab).bind fun a7 => ((laws_toIntSS.f k af).bind fun cr => ((laws_toIntS.f k ai).bind fun cw => ((laws_toIntSS.f k ah).bind fun dZ => (some (ae, al, a7, cr, cw, dZ)))))
set_option maxHeartbeats 8000000 in
set_option maxRecDepth 100000 in
theorem laws_toBinary.apart (k : Nat) (ae : Int) (al : Int) (az : Option Addr) (aq : Nat) (ab : List (List Int)) (ay : Option Addr) (av : Nat) (af : List (List Int)) (ar : Option Addr) (au : Nat) (ai : List Int) (aw : Option Addr) (ax : Nat) (ah : List (List Int)) (r1 : Int) (r2 : Int) (r3 : List (List Int)) (r4 : List (List Int)) (r5 : List Int) (r6 : List (List Int)) (w : World) (bX : Kd.C (Kd.slice 3 (Kd.int .i64)) w az ab.length ab) (bY : ab.length ≤ aq) (bZ : Kd.C (Kd.slice 3 (Kd.int .i64)) w ay af.length af) (b0 : af.length ≤ av) (b1 : Kd.C (Kd.int .i64) w ar ai.length ai) (b2 : ai.length ≤ au) (b3 : Kd.C (Kd.slice 3 (Kd.int .i64)) w aw ah.length ah) (b4 : ah.length ≤ ax) (h : laws_toBinary.f k ae al ab af ai ah = some (r1, r2, r3, r4, r5, r6)) :
 Calls Tryz.prog 8 #[.agg #[.int .i64 ae, .int .i64 al, .slice az ab.length aq, .slice ay af.length av, .slice ar ai.length au, .slice aw ah.length ax]] w fun e w' => ∃ (n6 n7 nc n8 : Value) (m0 m1 m2 m3 m4 : Nat), e = .returned (.agg #[.int .i64 r1, .int .i64 r2, n6, n7, nc, n8]) ∧ (w.heap.size ≤ m0 ∧ m0 ≤ m1 ∧ m1 ≤ m2 ∧ m2 ≤ m3 ∧ m3 ≤ m4 ∧ m4 ≤ w'.heap.size) ∧ Kd.S (Kd.slice 3 (Kd.int .i64)) 23 w' w.heap.size (fun q_ => m0 ≤ q_ ∧ q_ < m1) n6 r3 ∧ Kd.S (Kd.slice 3 (Kd.int .i64)) 23 w' w.heap.size (fun q_ => m1 ≤ q_ ∧ q_ < m2) n7 r4 ∧ Kd.R (Kd.int .i64) 3 w' w.heap.size (fun q_ => m2 ≤ q_ ∧ q_ < m3) nc r5 ∧ Kd.S (Kd.slice 3 (Kd.int .i64)) 23 w' w.heap.size (fun q_ => m3 ≤ q_ ∧ q_ < m4) n8 r6 ∧ Below w.heap.size w w' := by
 have hu25 := Tryz.underlying25; have hu32 := Tryz.underlying32; have bs := zA bX; have bw := zA bY; clear bX bY; have bt := zA bZ; have bz := zA b0; clear bZ b0; have bA := zA b1; have bB := zA b2; clear b1 b2; have bC := zA b3; have bI := zA b4; clear b3 b4; have HB := zA (Below.refl w.heap.size w); have H : ((laws_toIntSS.f k ab).bind fun a7 => ((laws_toIntSS.f k af).bind fun cr => ((laws_toIntS.f k ai).bind fun cw => ((laws_toIntSS.f k ah).bind fun dZ => (some (ae, al, a7, cr, cw, dZ)))))) = some (r1, r2, r3, r4, r5, r6) := h; clear h; replace H := Option.bind_eq_some_iff.mp H; obtain ⟨a7, j5, H⟩ := H; replace H : ((laws_toIntSS.f k af).bind fun cr => ((laws_toIntS.f k ai).bind fun cw => ((laws_toIntSS.f k ah).bind fun dZ => (some (ae, al, a7, cr, cw, dZ))))) = some (r1, r2, r3, r4, r5, r6) := H; have A2 := zA j5; clear j5; replace H := Option.bind_eq_some_iff.mp H; obtain ⟨cr, g5, H⟩ := H; replace H : ((laws_toIntS.f k ai).bind fun cw => ((laws_toIntSS.f k ah).bind fun dZ => (some (ae, al, a7, cr, cw, dZ)))) = some (r1, r2, r3, r4, r5, r6) := H; have A3 := zA g5; clear g5; replace H := Option.bind_eq_some_iff.mp H; obtain ⟨cw, fM, H⟩ := H; replace H : ((laws_toIntSS.f k ah).bind fun dZ => (some (ae, al, a7, cr, cw, dZ))) = some (r1, r2, r3, r4, r5, r6) := H; have A4 := zA fM; clear fM; replace H := Option.bind_eq_some_iff.mp H; obtain ⟨dZ, pu, H⟩ := H; replace H : (some (ae, al, a7, cr, cw, dZ)) = some (r1, r2, r3, r4, r5, r6) := H; have A5 := zA pu; clear pu; simp only [Option.some.injEq, Prod.mk.injEq] at H; obtain ⟨rfl, rfl, rfl, rfl, rfl, rfl⟩ := H; go_enter Tryz.func8, Tryz.ntmps8; go_wp2_with (first | ((with_reducible refine gate_dst (N := 1) rfl ?_); refine box_event ?hg (N := 1) ?hd (cs := #[.int .i64 ae, .int .i64 al, .slice az ab.length aq, .slice ay af.length av, .slice ar ai.length au, .slice aw ah.length ax]) (t := 25) ?hr ?_; (case hd => rfl); (case hg => rfl); (case hr => first | (go_simp; done) | (go_simp; rfl)); intro ad hg w6 hbox hb; have g6 := zA (zG (zz0q HB) hb); have g7 := zA (hbox); have g8 := zA ((by rw [hg]; exact (zF (zz0q HB)) : w.heap.size ≤ ad)); have g9 := zA ((by rw [hg]; exact (zF (zz0q HB)) : w.heap.size ≤ ad)); clear HB; have HB := g6; have aa := g7; have bD := g8; have ac := g9; clear g6 g7 g8 g9; clear hb hbox hg) | ((with_reducible refine gate_dst (N := 2) rfl ?_); refine box_event ?hg (N := 2) ?hd (cs := #[.int .i64 0, .int .i64 0, .slice none 0 0, .slice none 0 0, .slice none 0 0, .slice none 0 0]) (t := 32) ?hr ?_; (case hd => rfl); (case hg => rfl); (case hr => first | (go_simp; done) | (go_simp; rfl)); intro am hg w7 hbox hb; have g6 := zA (zM (g := ad) (o := .cells #[.int .i64 ae, .int .i64 al, .slice az ab.length aq, .slice ay af.length av, .slice ar ai.length au, .slice aw ah.length ax] 25 (0, 0)) (zz0s aa) hb); have g7 := zA (zG (zz0h HB ac) hb); have g8 := zA (hbox); have g9 := zA ((by rw [hg]; exact (zF (zz0h HB ac)) : w.heap.size ≤ am)); have iV := zA ((by rw [hg]; exact (zF (zz0h HB ac)) : w.heap.size ≤ am)); have j6 := zA ((by rw [hg]; exact Nat.ne_of_lt (blk_lt (g := ad) (o := .cells #[.int .i64 ae, .int .i64 al, .slice az ab.length aq, .slice ay af.length av, .slice ar ai.length au, .slice aw ah.length ax] 25 (0, 0)) (zz0s aa)) : ad ≠ am)); have lh := zA ((by rw [hg]; exact Nat.ne_of_gt (blk_lt (g := ad) (o := .cells #[.int .i64 ae, .int .i64 al, .slice az ab.length aq, .slice ay af.length av, .slice ar ai.length au, .slice aw ah.length ax] 25 (0, 0)) (zz0s aa)) : am ≠ ad)); clear aa; clear HB; have aa := g6; have HB := g7; have ag := g8; have cJ := g9; have ap := iV; have aC := j6; have aD := lh; clear g6 g7 g8 g9 iV j6 lh; clear hb hbox hg) | ((with_reducible refine gate_dst (N := 3) rfl ?_); refine box_event ?hg (N := 3) ?hd (cs := #[.int .i64 0, .int .i64 0, .slice none 0 0, .slice none 0 0, .slice none 0 0, .slice none 0 0]) (t := 32) ?hr ?_; (case hd => rfl); (case hg => rfl); (case hr => first | (go_simp; done) | (go_simp; rfl)); intro bn hg w8 hbox hb; have g6 := zA (zM (g := ad) (o := .cells #[.int .i64 ae, .int .i64 al, .slice az ab.length aq, .slice ay af.length av, .slice ar ai.length au, .slice aw ah.length ax] 25 (0, 0)) (zz0s aa) hb); have g7 := zA (zM (g := am) (o := .cells #[.int .i64 0, .int .i64 0, .slice none 0 0, .slice none 0 0, .slice none 0 0, .slice none 0 0] 32 (0, 0)) (zz0s ag) hb); have g8 := zA (zG (zz0e HB ac ap) hb); have g9 := zA (hbox); have iV := zA ((by rw [hg]; exact (zF (zz0e HB ac ap)) : w.heap.size ≤ bn)); have j6 := zA ((by rw [hg]; exact (zF (zz0e HB ac ap)) : w.heap.size ≤ bn)); have lh := zA ((by rw [hg]; exact Nat.ne_of_lt (blk_lt (g := ad) (o := .cells #[.int .i64 ae, .int .i64 al, .slice az ab.length aq, .slice ay af.length av, .slice ar ai.length au, .slice aw ah.length ax] 25 (0, 0)) (zz0s aa)) : ad ≠ bn)); have pv := zA ((by rw [hg]; exact Nat.ne_of_gt (blk_lt (g := ad) (o := .cells #[.int .i64 ae, .int .i64 al, .slice az ab.length aq, .slice ay af.length av, .slice ar ai.length au, .slice aw ah.length ax] 25 (0, 0)) (zz0s aa)) : bn ≠ ad)); have q0 := zA ((by rw [hg]; exact Nat.ne_of_lt (blk_lt (g := am) (o := .cells #[.int .i64 0, .int .i64 0, .slice none 0 0, .slice none 0 0, .slice none 0 0, .slice none 0 0] 32 (0, 0)) (zz0s ag)) : am ≠ bn)); have q2 := zA ((by rw [hg]; exact Nat.ne_of_gt (blk_lt (g := am) (o := .cells #[.int .i64 0, .int .i64 0, .slice none 0 0, .slice none 0 0, .slice none 0 0, .slice none 0 0] 32 (0, 0)) (zz0s ag)) : bn ≠ am)); clear aa; clear ag; clear HB; have aa := g6; have ag := g7; have HB := g8; have aX := g9; have GW103 := iV; have dO := j6; have db := lh; have gj := pv; have cL := q0; have gl := q2; clear g6 g7 g8 g9 iV j6 lh pv q0 q2; clear hb hbox hg; have hnb9 := aC.out; have hnc9 := aD.out; have hnb10 := db.out; have hnc10 := gj.out; have hcz11_0 : w8.cell? ⟨ad, 0, none⟩ = some (.int .i64 ae) := (zK aa.out 0).trans rfl; have hcz11_1 : w8.cell? ⟨ad, 1, none⟩ = some (.int .i64 al) := (zK aa.out 1).trans rfl; have hcz11_2 : w8.cell? ⟨ad, 2, none⟩ = some (.slice az ab.length aq) := (zK aa.out 2).trans rfl; have hcz11_3 : w8.cell? ⟨ad, 3, none⟩ = some (.slice ay af.length av) := (zK aa.out 3).trans rfl; have hcz11_4 : w8.cell? ⟨ad, 4, none⟩ = some (.slice ar ai.length au) := (zK aa.out 4).trans rfl; have hcz11_5 : w8.cell? ⟨ad, 5, none⟩ = some (.slice aw ah.length ax) := (zK aa.out 5).trans rfl; have hnb12 := gl.out; have hnc12 := cL.out; have hcz13_0 : w8.cell? ⟨bn, 0, none⟩ = some (.int .i64 0) := (zK aX.out 0).trans rfl; have hcz13_1 : w8.cell? ⟨bn, 1, none⟩ = some (.int .i64 0) := (zK aX.out 1).trans rfl; have hcz13_2 : w8.cell? ⟨bn, 2, none⟩ = some (.slice none 0 0) := (zK aX.out 2).trans rfl; have hcz13_3 : w8.cell? ⟨bn, 3, none⟩ = some (.slice none 0 0) := (zK aX.out 3).trans rfl; have hcz13_4 : w8.cell? ⟨bn, 4, none⟩ = some (.slice none 0 0) := (zK aX.out 4).trans rfl; have hcz13_5 : w8.cell? ⟨bn, 5, none⟩ = some (.slice none 0 0) := (zK aX.out 5).trans rfl; have hfz13_0 := zL aX.out 0; have hfz13_1 := zL aX.out 1; have hfz13_2 := zL aX.out 2; have hfz13_3 := zL aX.out 3; have hfz13_4 := zL aX.out 4; have hfz13_5 := zL aX.out 5) | ((with_reducible refine gate_callee (f := 28) rfl ?_); refine goesL_ (some 12) rfl rfl Tryz.func28 zz1c rfl #[.slice az ab.length aq] rfl zz0d ?_; (with_reducible refine (laws_toIntSS.calls k _ _ ab a7 _ ?aj ?ak A2.out).mono ?_); (case aj => exact zS bs.out (zz0b HB ac ap dO)); (case ak => exact bw.out); rintro e gH ⟨li, rfl, cj, hb⟩; refine ⟨_, rfl, ?_⟩;have Z0_ := zA (show w.heap.size ≤ w8.heap.size from zF HB.out);  have hsz_ := hb.size; (try simp at hsz_); have Z1_ := zA (show w8.heap.size ≤ gH.heap.size by omega); clear hsz_; replace cj := Kd.S_mono (ok' := fun q_ => w8.heap.size ≤ q_ ∧ q_ < gH.heap.size) (Kd.S_bound cj) (fun q_ h_ => ⟨zz10, h_.2.2.1⟩); have g6 := zA (Kd.S_lower cj (zF (zz0b HB ac ap dO))); have g7 := zA (zM (g := ad) (o := .cells #[.int .i64 ae, .int .i64 al, .slice az ab.length aq, .slice ay af.length av, .slice ar ai.length au, .slice aw ah.length ax] 25 (0, 0)) (zz01 db aa) hb); have g8 := zA (zM (g := am) (o := .cells #[.int .i64 0, .int .i64 0, .slice none 0 0, .slice none 0 0, .slice none 0 0, .slice none 0 0] 32 (0, 0)) (zz01 cL ag) hb); have g9 := zA (zM (g := bn) (o := .cells #[.int .i64 ae, .int .i64 al, .slice none 0 0, .slice none 0 0, .slice none 0 0, .slice none 0 0] 32 (0, 0)) (by (with_reducible repeat (first | refine zI ?_ _ | refine zJ ?_ | refine zH ?_ _)); refine zO (cs := #[.int .i64 ae, .int .i64 0, .slice none 0 0, .slice none 0 0, .slice none 0 0, .slice none 0 0]) ?_ 1 _ rfl; (with_reducible repeat (first | refine zI ?_ _ | refine zJ ?_ | refine zH ?_ _)); refine zO (cs := #[.int .i64 0, .int .i64 0, .slice none 0 0, .slice none 0 0, .slice none 0 0, .slice none 0 0]) ?_ 0 _ rfl; (with_reducible repeat (first | refine zI ?_ _ | refine zJ ?_ | refine zH ?_ _)); exact aX.out) hb); have iV := zA (zG (zz0b HB ac ap dO) hb); clear aa; clear ag; clear aX; clear HB; have da := g6; have aa := g7; have ag := g8; have aX := g9; have HB := iV; clear g6 g7 g8 g9 iV; (try clear hb); (try clear hb2); (try clear hk); (try clear hi); (try clear cj); obtain ⟨eO, eP, n9⟩ := Kd.S_slice da.out; subst n9; have gN : gH.cell? ⟨bn, 0, none⟩ = some (.int .i64 ae) := (zK aX.out 0).trans rfl; have gO : gH.cell? ⟨bn, 1, none⟩ = some (.int .i64 al) := (zK aX.out 1).trans rfl; have gP : gH.cell? ⟨bn, 2, none⟩ = some (.slice none 0 0) := (zK aX.out 2).trans rfl; have gQ : gH.cell? ⟨bn, 3, none⟩ = some (.slice none 0 0) := (zK aX.out 3).trans rfl; have gR : gH.cell? ⟨bn, 4, none⟩ = some (.slice none 0 0) := (zK aX.out 4).trans rfl; have gS : gH.cell? ⟨bn, 5, none⟩ = some (.slice none 0 0) := (zK aX.out 5).trans rfl; have hfz16_0 := zL aX.out 0; have hfz16_1 := zL aX.out 1; have hfz16_2 := zL aX.out 2; have hfz16_3 := zL aX.out 3; have hfz16_4 := zL aX.out 4; have hfz16_5 := zL aX.out 5; have gT : gH.cell? ⟨ad, 0, none⟩ = some (.int .i64 ae) := (zK aa.out 0).trans rfl; have gU : gH.cell? ⟨ad, 1, none⟩ = some (.int .i64 al) := (zK aa.out 1).trans rfl; have gV : gH.cell? ⟨ad, 2, none⟩ = some (.slice az ab.length aq) := (zK aa.out 2).trans rfl; have gW : gH.cell? ⟨ad, 3, none⟩ = some (.slice ay af.length av) := (zK aa.out 3).trans rfl; have gX : gH.cell? ⟨ad, 4, none⟩ = some (.slice ar ai.length au) := (zK aa.out 4).trans rfl; have gY : gH.cell? ⟨ad, 5, none⟩ = some (.slice aw ah.length ax) := (zK aa.out 5).trans rfl; have j7 := zL aa.out 5) | ((with_reducible refine gate_callee (f := 28) rfl ?_); refine goesL_ (some 16) rfl rfl Tryz.func28 zz1c rfl #[.slice ay af.length av] rfl zz0d ?_; (with_reducible refine (laws_toIntSS.calls k _ _ af cr _ ?aj ?ak A3.out).mono ?_); (case aj => exact zS bt.out (zz0b HB ac ap dO)); (case ak => exact bz.out); rintro e ic ⟨oa, rfl, cj, hb⟩; refine ⟨_, rfl, ?_⟩; have hsz_ := hb.size; (try simp at hsz_); have Z2_ := zA (show gH.heap.size ≤ ic.heap.size by omega); clear hsz_; replace cj := Kd.S_mono (ok' := fun q_ => gH.heap.size ≤ q_ ∧ q_ < ic.heap.size) (Kd.S_bound cj) (fun q_ h_ => ⟨zz10, h_.2.2.1⟩); have g6 := zA (Kd.S_elder' zz03 (Kd.S_base cj) hb); have g7 := zA (Kd.S_lower (Kd.S_new' cj (Kd.S_lt zz03)) (zF (zz0b HB ac ap dO))); have g8 := zA (zM (g := ad) (o := .cells #[.int .i64 ae, .int .i64 al, .slice az ab.length aq, .slice ay af.length av, .slice ar ai.length au, .slice aw ah.length ax] 25 (0, 0)) (zz08 db aa) hb); have g9 := zA (zM (g := am) (o := .cells #[.int .i64 0, .int .i64 0, .slice none 0 0, .slice none 0 0, .slice none 0 0, .slice none 0 0] 32 (0, 0)) (zz08 cL ag) hb); have iV := zA (zM (g := bn) (o := .cells #[.int .i64 ae, .int .i64 al, .slice eO a7.length eP, .slice none 0 0, .slice none 0 0, .slice none 0 0] 32 (0, 0)) (by (with_reducible repeat (first | refine zI ?_ _ | refine zJ ?_ | refine zH ?_ _)); refine zO (cs := #[.int .i64 ae, .int .i64 al, .slice none 0 0, .slice none 0 0, .slice none 0 0, .slice none 0 0]) ?_ 2 _ rfl; (with_reducible repeat (first | refine zI ?_ _ | refine zJ ?_ | refine zH ?_ _)); exact aX.out) hb); have j6 := zA (zG (zz0b HB ac ap dO) hb); clear da; clear aa; clear ag; clear aX; clear HB; have da := g6; have cU := g7; have aa := g8; have ag := g9; have aX := iV; have HB := j6; clear g6 g7 g8 g9 iV j6; (try clear hb); (try clear hb2); (try clear hk); (try clear hi); (try clear cj); obtain ⟨fE, fF, ob⟩ := Kd.S_slice cU.out; subst ob; have gZ : ic.cell? ⟨bn, 0, none⟩ = some (.int .i64 ae) := (zK aX.out 0).trans rfl; have g0 : ic.cell? ⟨bn, 1, none⟩ = some (.int .i64 al) := (zK aX.out 1).trans rfl; have ie : ic.cell? ⟨bn, 2, none⟩ = some (.slice eO a7.length eP) := (zK aX.out 2).trans rfl; have ig : ic.cell? ⟨bn, 3, none⟩ = some (.slice none 0 0) := (zK aX.out 3).trans rfl; have ih : ic.cell? ⟨bn, 4, none⟩ = some (.slice none 0 0) := (zK aX.out 4).trans rfl; have ii : ic.cell? ⟨bn, 5, none⟩ = some (.slice none 0 0) := (zK aX.out 5).trans rfl; have hfz20_0 := zL aX.out 0; have hfz20_1 := zL aX.out 1; have hfz20_2 := zL aX.out 2; have hfz20_3 := zL aX.out 3; have hfz20_4 := zL aX.out 4; have hfz20_5 := zL aX.out 5; have j8 : ic.cell? ⟨ad, 0, none⟩ = some (.int .i64 ae) := (zK aa.out 0).trans rfl; have j9 : ic.cell? ⟨ad, 1, none⟩ = some (.int .i64 al) := (zK aa.out 1).trans rfl; have hcz21_2 : ic.cell? ⟨ad, 2, none⟩ = some (.slice az ab.length aq) := (zK aa.out 2).trans rfl; have hcz21_3 : ic.cell? ⟨ad, 3, none⟩ = some (.slice ay af.length av) := (zK aa.out 3).trans rfl; have hcz21_4 : ic.cell? ⟨ad, 4, none⟩ = some (.slice ar ai.length au) := (zK aa.out 4).trans rfl; have hcz21_5 : ic.cell? ⟨ad, 5, none⟩ = some (.slice aw ah.length ax) := (zK aa.out 5).trans rfl; have hfz21_5 := zL aa.out 5) | ((with_reducible refine gate_callee (f := 10) rfl ?_); refine goesL_ (some 20) rfl rfl Tryz.func10 zz1c rfl #[.slice ar ai.length au] rfl zz0d ?_; (with_reducible refine (laws_toIntS.calls k _ _ ai cw _ ?aj ?ak A4.out).mono ?_); (case aj => exact zS bA.out (zz0b HB ac ap dO)); (case ak => exact bB.out); rintro e h0 ⟨mB, rfl, cj, hb⟩; refine ⟨_, rfl, ?_⟩; have hsz_ := hb.size; (try simp at hsz_); have Z3_ := zA (show ic.heap.size ≤ h0.heap.size by omega); clear hsz_; replace cj := Kd.R_mono (ok' := fun q_ => ic.heap.size ≤ q_ ∧ q_ < h0.heap.size) (Kd.R_bound cj) (fun q_ h_ => ⟨zz10, h_.2.2.1⟩); have g6 := zA (Kd.S_elder' (by (with_reducible repeat (first | apply Kd.S_alloc | apply Kd.S_drewN | apply Kd.S_drew)); exact (Kd.S_mono (Kd.S_far (p := ⟨bn, 3, none⟩) (Kd.S_types da.out aX.out zz1f) (fun _ hk => hk.2) (.slice fE cr.length fF)) (fun _ h_ => h_.1))) (Kd.R_base cj) hb); have g7 := zA (Kd.S_elder' (by (with_reducible repeat (first | apply Kd.S_alloc | apply Kd.S_drewN | apply Kd.S_drew)); exact (Kd.S_mono (Kd.S_far (p := ⟨bn, 3, none⟩) (Kd.S_types cU.out aX.out zz1f) (fun _ hk => hk.2) (.slice fE cr.length fF)) (fun _ h_ => h_.1))) (Kd.R_base cj) hb); have g8 := zA (Kd.R_lower cj (zF (zz0b HB ac ap dO))); have g9 := zA (zM (g := ad) (o := .cells #[.int .i64 ae, .int .i64 al, .slice az ab.length aq, .slice ay af.length av, .slice ar ai.length au, .slice aw ah.length ax] 25 (0, 0)) (zz08 db aa) hb); have iV := zA (zM (g := am) (o := .cells #[.int .i64 0, .int .i64 0, .slice none 0 0, .slice none 0 0, .slice none 0 0, .slice none 0 0] 32 (0, 0)) (zz08 cL ag) hb); have j6 := zA (zM (g := bn) (o := .cells #[.int .i64 ae, .int .i64 al, .slice eO a7.length eP, .slice fE cr.length fF, .slice none 0 0, .slice none 0 0] 32 (0, 0)) (by (with_reducible repeat (first | refine zI ?_ _ | refine zJ ?_ | refine zH ?_ _)); refine zO (cs := #[.int .i64 ae, .int .i64 al, .slice eO a7.length eP, .slice none 0 0, .slice none 0 0, .slice none 0 0]) ?_ 3 _ rfl; (with_reducible repeat (first | refine zI ?_ _ | refine zJ ?_ | refine zH ?_ _)); exact aX.out) hb); have lh := zA (zG (zz0b HB ac ap dO) hb); clear da; clear cU; clear aa; clear ag; clear aX; clear HB; have da := g6; have cU := g7; have cN := g8; have aa := g9; have ag := iV; have aX := j6; have HB := lh; clear g6 g7 g8 g9 iV j6 lh; (try clear hb); (try clear hb2); (try clear hk); (try clear hi); (try clear cj); obtain ⟨fZ, f0, eo23⟩ := Kd.R_slice cN.out; subst eo23; have hcz24_0 : h0.cell? ⟨bn, 0, none⟩ = some (.int .i64 ae) := (zK aX.out 0).trans rfl; have hcz24_1 : h0.cell? ⟨bn, 1, none⟩ = some (.int .i64 al) := (zK aX.out 1).trans rfl; have hcz24_2 : h0.cell? ⟨bn, 2, none⟩ = some (.slice eO a7.length eP) := (zK aX.out 2).trans rfl; have hcz24_3 : h0.cell? ⟨bn, 3, none⟩ = some (.slice fE cr.length fF) := (zK aX.out 3).trans rfl; have hcz24_4 : h0.cell? ⟨bn, 4, none⟩ = some (.slice none 0 0) := (zK aX.out 4).trans rfl; have hcz24_5 : h0.cell? ⟨bn, 5, none⟩ = some (.slice none 0 0) := (zK aX.out 5).trans rfl; have hfz24_0 := zL aX.out 0; have hfz24_1 := zL aX.out 1; have hfz24_2 := zL aX.out 2; have hfz24_3 := zL aX.out 3; have hfz24_4 := zL aX.out 4; have hfz24_5 := zL aX.out 5; have hcz25_0 : h0.cell? ⟨ad, 0, none⟩ = some (.int .i64 ae) := (zK aa.out 0).trans rfl; have hcz25_1 : h0.cell? ⟨ad, 1, none⟩ = some (.int .i64 al) := (zK aa.out 1).trans rfl; have hcz25_2 : h0.cell? ⟨ad, 2, none⟩ = some (.slice az ab.length aq) := (zK aa.out 2).trans rfl; have hcz25_3 : h0.cell? ⟨ad, 3, none⟩ = some (.slice ay af.length av) := (zK aa.out 3).trans rfl; have hcz25_4 : h0.cell? ⟨ad, 4, none⟩ = some (.slice ar ai.length au) := (zK aa.out 4).trans rfl; have hcz25_5 : h0.cell? ⟨ad, 5, none⟩ = some (.slice aw ah.length ax) := (zK aa.out 5).trans rfl; have hfz25_5 := zL aa.out 5) | ((with_reducible refine gate_callee (f := 28) rfl ?_); refine goesL_ (some 24) rfl rfl Tryz.func28 zz1c rfl #[.slice aw ah.length ax] rfl zz0d ?_; (with_reducible refine (laws_toIntSS.calls k _ _ ah dZ _ ?aj ?ak A5.out).mono ?_); (case aj => exact zS bC.out (zz0b HB ac ap dO)); (case ak => exact bI.out); rintro e jq ⟨d0, rfl, cj, hb⟩; refine ⟨_, rfl, ?_⟩; have hsz_ := hb.size; (try simp at hsz_); have Z4_ := zA (show h0.heap.size ≤ jq.heap.size by omega); clear hsz_; replace cj := Kd.S_mono (ok' := fun q_ => h0.heap.size ≤ q_ ∧ q_ < jq.heap.size) (Kd.S_bound cj) (fun q_ h_ => ⟨zz10, h_.2.2.1⟩); have g6 := zA (Kd.S_elder' zz04 (Kd.S_base cj) hb); have g7 := zA (Kd.S_elder' zz05 (Kd.S_base cj) hb); have g8 := zA (Kd.R_below zz06 hb); have g9 := zA (Kd.S_lower (Kd.S_new' (Kd.S_new' (Kd.S_new' cj (Kd.S_lt zz04)) (Kd.S_lt zz05)) (Kd.R_lt zz06)) (zF (zz0b HB ac ap dO))); have iV := zA (zM (g := ad) (o := .cells #[.int .i64 ae, .int .i64 al, .slice az ab.length aq, .slice ay af.length av, .slice ar ai.length au, .slice aw ah.length ax] 25 (0, 0)) (zz08 db aa) hb); have j6 := zA (zM (g := am) (o := .cells #[.int .i64 0, .int .i64 0, .slice none 0 0, .slice none 0 0, .slice none 0 0, .slice none 0 0] 32 (0, 0)) (zz08 cL ag) hb); have lh := zA (zM (g := bn) (o := .cells #[.int .i64 ae, .int .i64 al, .slice eO a7.length eP, .slice fE cr.length fF, .slice fZ cw.length f0, .slice none 0 0] 32 (0, 0)) (by (with_reducible repeat (first | refine zI ?_ _ | refine zJ ?_ | refine zH ?_ _)); refine zO (cs := #[.int .i64 ae, .int .i64 al, .slice eO a7.length eP, .slice fE cr.length fF, .slice none 0 0, .slice none 0 0]) ?_ 4 _ rfl; (with_reducible repeat (first | refine zI ?_ _ | refine zJ ?_ | refine zH ?_ _)); exact aX.out) hb); have pv := zA (zG (zz0b HB ac ap dO) hb); clear da; clear cU; clear cN; clear aa; clear ag; clear aX; clear HB; have da := g6; have cU := g7; have cN := g8; have dh := g9; have aa := iV; have ag := j6; have aX := lh; have HB := pv; clear g6 g7 g8 g9 iV j6 lh pv; (try clear hb); (try clear hb2); (try clear hk); (try clear hi); (try clear cj); obtain ⟨ij, ik, eo27⟩ := Kd.S_slice dh.out; subst eo27; have hcz28_0 : jq.cell? ⟨bn, 0, none⟩ = some (.int .i64 ae) := (zK aX.out 0).trans rfl; have hcz28_1 : jq.cell? ⟨bn, 1, none⟩ = some (.int .i64 al) := (zK aX.out 1).trans rfl; have hcz28_2 : jq.cell? ⟨bn, 2, none⟩ = some (.slice eO a7.length eP) := (zK aX.out 2).trans rfl; have hcz28_3 : jq.cell? ⟨bn, 3, none⟩ = some (.slice fE cr.length fF) := (zK aX.out 3).trans rfl; have hcz28_4 : jq.cell? ⟨bn, 4, none⟩ = some (.slice fZ cw.length f0) := (zK aX.out 4).trans rfl; have hcz28_5 : jq.cell? ⟨bn, 5, none⟩ = some (.slice none 0 0) := (zK aX.out 5).trans rfl; have hfz28_0 := zL aX.out 0; have hfz28_1 := zL aX.out 1; have hfz28_2 := zL aX.out 2; have hfz28_3 := zL aX.out 3; have hfz28_4 := zL aX.out 4; have hfz28_5 := zL aX.out 5; have ka : jq.cell? ⟨am, 0, none⟩ = some (.int .i64 0) := (zK ag.out 0).trans rfl; have kb : jq.cell? ⟨am, 1, none⟩ = some (.int .i64 0) := (zK ag.out 1).trans rfl; have hcz29_2 : jq.cell? ⟨am, 2, none⟩ = some (.slice none 0 0) := (zK ag.out 2).trans rfl; have hcz29_3 : jq.cell? ⟨am, 3, none⟩ = some (.slice none 0 0) := (zK ag.out 3).trans rfl; have hcz29_4 : jq.cell? ⟨am, 4, none⟩ = some (.slice none 0 0) := (zK ag.out 4).trans rfl; have hcz29_5 : jq.cell? ⟨am, 5, none⟩ = some (.slice none 0 0) := (zK ag.out 5).trans rfl; have hfz29_0 := zL ag.out 0; have hfz29_1 := zL ag.out 1; have hfz29_2 := zL ag.out 2; have hfz29_3 := zL ag.out 3; have hfz29_4 := zL ag.out 4; have hfz29_5 := zL ag.out 5)); refine bodyPost_ret (results_cell_row rfl _ _ am 32 #[.int .i64 ae, .int .i64 al, .slice eO a7.length eP, .slice fE cr.length fF, .slice fZ cw.length f0, .slice ij dZ.length ik] (0, 0) _ rfl (by (with_reducible repeat (first | refine zI ?_ _ | refine zJ ?_ | refine zH ?_ _)); refine zO (cs := #[.int .i64 ae, .int .i64 al, .slice eO a7.length eP, .slice fE cr.length fF, .slice fZ cw.length f0, .slice none 0 0]) ?_ 5 _ rfl; (with_reducible repeat (first | refine zI ?_ _ | refine zJ ?_ | refine zH ?_ _)); refine zO (cs := #[.int .i64 ae, .int .i64 al, .slice eO a7.length eP, .slice fE cr.length fF, .slice none 0 0, .slice none 0 0]) ?_ 4 _ rfl; (with_reducible repeat (first | refine zI ?_ _ | refine zJ ?_ | refine zH ?_ _)); refine zO (cs := #[.int .i64 ae, .int .i64 al, .slice eO a7.length eP, .slice none 0 0, .slice none 0 0, .slice none 0 0]) ?_ 3 _ rfl; (with_reducible repeat (first | refine zI ?_ _ | refine zJ ?_ | refine zH ?_ _)); refine zO (cs := #[.int .i64 ae, .int .i64 al, .slice none 0 0, .slice none 0 0, .slice none 0 0, .slice none 0 0]) ?_ 2 _ rfl; (with_reducible repeat (first | refine zI ?_ _ | refine zJ ?_ | refine zH ?_ _)); refine zO (cs := #[.int .i64 ae, .int .i64 0, .slice none 0 0, .slice none 0 0, .slice none 0 0, .slice none 0 0]) ?_ 1 _ rfl; (with_reducible repeat (first | refine zI ?_ _ | refine zJ ?_ | refine zH ?_ _)); refine zO (cs := #[.int .i64 0, .int .i64 0, .slice none 0 0, .slice none 0 0, .slice none 0 0, .slice none 0 0]) ?_ 0 _ rfl; (with_reducible repeat (first | refine zI ?_ _ | refine zJ ?_ | refine zH ?_ _)); refine zN ?_ cL.out _; (with_reducible repeat (first | refine zI ?_ _ | refine zJ ?_ | refine zH ?_ _)); exact ag.out) Tryz.underlying32 rfl zz1c) rfl ?_; exact ⟨_, _, _, _, w8.heap.size, gH.heap.size, ic.heap.size, h0.heap.size, jq.heap.size, zz0r, ⟨Z0_.out, Z1_.out, Z2_.out, Z3_.out, Z4_.out, by first | (simp; done) | omega | (simp; omega)⟩, zz00 da aX ag, zz00 cU aX ag, by (with_reducible repeat (first | apply zT | apply zU | apply zV)); exact Kd.R_mono (Kd.R_far (p := ⟨am, 5, none⟩) (Kd.R_far (p := ⟨am, 4, none⟩) (Kd.R_far (p := ⟨am, 3, none⟩) (Kd.R_far (p := ⟨am, 2, none⟩) (Kd.R_far (p := ⟨am, 1, none⟩) (Kd.R_far (p := ⟨am, 0, none⟩) (Kd.R_far (p := ⟨bn, 5, none⟩) (Kd.R_types (Kd.R_types cN.out aX.out zz1f) ag.out zz1f) (fun _ hk => hk.1.2) (.slice ij dZ.length ik)) (fun _ hk => hk.2) (.int .i64 ae)) (fun _ hk => hk.2) (.int .i64 al)) (fun _ hk => hk.2) (.slice eO a7.length eP)) (fun _ hk => hk.2) (.slice fE cr.length fF)) (fun _ hk => hk.2) (.slice fZ cw.length f0)) (fun _ hk => hk.2) (.slice ij dZ.length ik)) (fun _ hk => by repeat (first | exact hk | replace hk := hk.1)), zz00 dh aX ag, zz0b HB ac ap dO⟩
theorem laws_toBinary.calls (k : Nat) (ae : Int) (al : Int) (az : Option Addr) (aq : Nat) (ab : List (List Int)) (ay : Option Addr) (av : Nat) (af : List (List Int)) (ar : Option Addr) (au : Nat) (ai : List Int) (aw : Option Addr) (ax : Nat) (ah : List (List Int)) (r1 : Int) (r2 : Int) (r3 : List (List Int)) (r4 : List (List Int)) (r5 : List Int) (r6 : List (List Int)) (w : World) (bX : Kd.C (Kd.slice 3 (Kd.int .i64)) w az ab.length ab) (bY : ab.length ≤ aq) (bZ : Kd.C (Kd.slice 3 (Kd.int .i64)) w ay af.length af) (b0 : af.length ≤ av) (b1 : Kd.C (Kd.int .i64) w ar ai.length ai) (b2 : ai.length ≤ au) (b3 : Kd.C (Kd.slice 3 (Kd.int .i64)) w aw ah.length ah) (b4 : ah.length ≤ ax) (h : laws_toBinary.f k ae al ab af ai ah = some (r1, r2, r3, r4, r5, r6)) :
 Calls Tryz.prog 8 #[.agg #[.int .i64 ae, .int .i64 al, .slice az ab.length aq, .slice ay af.length av, .slice ar ai.length au, .slice aw ah.length ax]] w fun e w' => ∃ n6 n7 nc n8 : Value, e = .returned (.agg #[.int .i64 r1, .int .i64 r2, n6, n7, nc, n8]) ∧ Kd.S (Kd.slice 3 (Kd.int .i64)) 23 w' w.heap.size (fun k_ => some k_ ≠ (n7 : Value).ownBlock ∧ some k_ ≠ (nc : Value).ownBlock ∧ some k_ ≠ (n8 : Value).ownBlock) n6 r3 ∧ Kd.S (Kd.slice 3 (Kd.int .i64)) 23 w' w.heap.size (fun k_ => some k_ ≠ (n6 : Value).ownBlock ∧ some k_ ≠ (nc : Value).ownBlock ∧ some k_ ≠ (n8 : Value).ownBlock) n7 r4 ∧ Kd.R (Kd.int .i64) 3 w' w.heap.size (fun _ => True) nc r5 ∧ Kd.S (Kd.slice 3 (Kd.int .i64)) 23 w' w.heap.size (fun k_ => some k_ ≠ (n6 : Value).ownBlock ∧ some k_ ≠ (n7 : Value).ownBlock ∧ some k_ ≠ (nc : Value).ownBlock) n8 r6 ∧ Below w.heap.size w w' := by
 refine (laws_toBinary.apart k ae al az aq ab ay av af ar au ai aw ax ah r1 r2 r3 r4 r5 r6 w bX bY bZ b0 b1 b2 b3 b4 h).mono ?_; rintro e w' ⟨v2, v3, v4, v5, m0, m1, m2, m3, m4, rfl, hm, h2, h3, h4, h5, hb⟩; have o2 : ∀ k, (v2 : Value).ownBlock = some k → m0 ≤ k ∧ k < m1 := by obtain ⟨_, g⟩ := id h2; exact g.1
 have o3 : ∀ k, (v3 : Value).ownBlock = some k → m1 ≤ k ∧ k < m2 := by obtain ⟨_, g⟩ := id h3; exact g.1
 have o4 : ∀ k, (v4 : Value).ownBlock = some k → m2 ≤ k ∧ k < m3 := h4.1; have o5 : ∀ k, (v5 : Value).ownBlock = some k → m3 ≤ k ∧ k < m4 := by obtain ⟨_, g⟩ := id h5; exact g.1
 exact ⟨v2, v3, v4, v5, rfl, Kd.S_mono h2 (fun k_ hk => ⟨fun e_ => by have := o3 k_ e_.symm; omega, fun e_ => by have := o4 k_ e_.symm; omega, fun e_ => by have := o5 k_ e_.symm; omega⟩), Kd.S_mono h3 (fun k_ hk => ⟨fun e_ => by have := o2 k_ e_.symm; omega, fun e_ => by have := o4 k_ e_.symm; omega, fun e_ => by have := o5 k_ e_.symm; omega⟩), Kd.R_mono h4 (fun _ _ => trivial), Kd.S_mono h5 (fun k_ hk => ⟨fun e_ => by have := o2 k_ e_.symm; omega, fun e_ => by have := o3 k_ e_.symm; omega, fun e_ => by have := o4 k_ e_.symm; omega⟩), hb⟩
end Go.Proofs.YtkocahlifffgjaaGreat.P
namespace Go.Proofs.YtkocahlifffgjaaGreat.P
open Go.RowKit Go.Proofs.YtkocahlifffgjaaGreatW.PrintWords
set_option linter.unusedVariables false
set_option linter.unusedSimpArgs false
def smallB (ps os : List (List Int)) (es : List Int) (fs : List (List Int)) : Prop := smallL ps ∧ smallL os ∧ es.length ≤ 1048576 ∧ smallL fs
theorem szBinary_fr (a0 a1 : Int) (l2 l3 : List (List Int)) (l4 : List Int) (l5 : List (List Int)) (h2 : fitL l2) (h3 : fitL l3) (h4 : l4.length ≤ 9223372036854775807) (h5 : fitL l5) (a : Int) (ha : 0 ≤ a) (ha2 : a ≤ 1048576) :
 ∃ t, Ev (fun k => laws_szBinary.f k a0 a1 l2 l3 l4 l5 a) t ∧ t ≤ 1048576 ∧ (0 ≤ t → smallB l2 l3 l4 l5) := by
 obtain ⟨t2, ⟨K2, e2⟩, b2, s2⟩ := szIntSS_fr l2 h2.1 h2.2 a ha ha2; dsimp only at e2; by_cases n2 : t2 < 0
 · refine ⟨-1, ⟨K2, fun k hk => ?_⟩, zz1g, fun h => by omega⟩; dsimp only; unfold laws_szBinary.f; rw [e2 k hk]; simp only [Option.bind_some]; rw [if_pos n2]
 · obtain ⟨t3, ⟨K3, e3⟩, b3, s3⟩ := szIntSS_fr l3 h3.1 h3.2 t2 zz1g b2; dsimp only at e3; by_cases n3 : t3 < 0
   · refine ⟨-1, ⟨K2 + K3, fun k hk => ?_⟩, zz1g, fun h => by omega⟩; dsimp only; unfold laws_szBinary.f; rw [e2 k zz1g]; simp only [Option.bind_some]; rw [if_neg n2, e3 k zz1g]; simp only [Option.bind_some]; rw [if_pos n3]
   · have e4 := szIntS_eq l4 t3 b3 zz1g h4; by_cases n4 : t3 - (l4.length : Int) < 0
     · rw [if_pos n4] at e4; refine ⟨-1, ⟨K2 + K3, fun k hk => ?_⟩, zz1g, fun h => by omega⟩; dsimp only; unfold laws_szBinary.f; rw [e2 k zz1g]; simp only [Option.bind_some]; rw [if_neg n2, e3 k zz1g]; simp only [Option.bind_some]; rw [if_neg n3, e4]; rfl
     · rw [if_neg n4] at e4; obtain ⟨t5, ⟨K5, e5⟩, b5, s5⟩ := szIntSS_fr l5 h5.1 h5.2 (t3 - l4.length) zz1g zz1g; dsimp only at e5; by_cases n5 : t5 < 0
       · refine ⟨-1, ⟨K2 + K3 + K5, fun k hk => ?_⟩, zz1g, fun h => by omega⟩; dsimp only; unfold laws_szBinary.f; rw [e2 k zz1g]; simp only [Option.bind_some]; rw [if_neg n2, e3 k zz1g]; simp only [Option.bind_some]; rw [if_neg n3, e4]; simp only [Option.bind_some]; rw [if_neg n4, e5 k zz1g]; simp only [Option.bind_some]; rw [if_pos n5]
       · refine ⟨t5, ⟨K2 + K3 + K5, fun k hk => ?_⟩, b5, fun h => ⟨s2 zz1g, s3 zz1g, zz1g, s5 h⟩⟩; dsimp only; unfold laws_szBinary.f; rw [e2 k zz1g]; simp only [Option.bind_some]; rw [if_neg n2, e3 k zz1g]; simp only [Option.bind_some]; rw [if_neg n3, e4]; simp only [Option.bind_some]; rw [if_neg n4, e5 k zz1g]; simp only [Option.bind_some]; rw [if_neg n5]
theorem toBinary_ev (a0 a1 : Int) (l2 l3 : List (List Int)) (l4 : List Int) (l5 : List (List Int)) (h : smallB l2 l3 l4 l5) : Ev (fun k => laws_toBinary.f k a0 a1 l2 l3 l4 l5) (a0, a1, l2, l3, l4, l5) := by
 obtain ⟨K2, e2⟩ := toIntSS_ev l2 h.1; obtain ⟨K3, e3⟩ := toIntSS_ev l3 h.2.1; obtain ⟨K4, e4⟩ := toIntS_ev l4 h.2.2.1; obtain ⟨K5, e5⟩ := toIntSS_ev l5 h.2.2.2; dsimp only at e2 e3 e4 e5; refine ⟨K2 + K3 + K4 + K5, fun k hk => ?_⟩; dsimp only; unfold laws_toBinary.f; rw [e2 k zz1g, e3 k zz1g, e4 k zz1g, e5 k zz1g]; rfl
theorem eqBinary_ev (a0 a1 : Int) (l2 l3 : List (List Int)) (l4 : List Int) (l5 : List (List Int)) (h : smallB l2 l3 l4 l5) : Ev (fun k => laws_eqBinary.f k a0 a1 l2 l3 l4 l5 a0 a1 l2 l3 l4 l5) true := by
 obtain ⟨K2, e2⟩ := eqIntSS_ev l2 h.1.1 h.1.2; obtain ⟨K3, e3⟩ := eqIntSS_ev l3 h.2.1.1 h.2.1.2; obtain ⟨K4, e4⟩ := eqIntS_ev l4 (by have := h.2.2.1; omega); obtain ⟨K5, e5⟩ := eqIntSS_ev l5 h.2.2.2.1 h.2.2.2.2; dsimp only at e2 e3 e4 e5; refine ⟨K2 + K3 + K4 + K5, fun k hk => ?_⟩; dsimp only; unfold laws_eqBinary.f; rw [if_pos rfl, if_pos rfl, e2 k zz1g]; simp only [Option.bind_some, if_true]; rw [e3 k zz1g]; simp only [Option.bind_some, if_true]; rw [e4 k zz1g]; simp only [Option.bind_some, if_true]; rw [e5 k zz1g]; rfl
theorem reads_smallB {w : World} {A2 A3 A4 A5 : Option Addr} {l2 l3 : List (List Int)} {l4 : List Int} {l5 : List (List Int)} (h2 : Kd.C (Kd.slice 3 (Kd.int .i64)) w A2 l2.length l2) (h3 : Kd.C (Kd.slice 3 (Kd.int .i64)) w A3 l3.length l3) (h4 : Kd.C (Kd.int .i64) w A4 l4.length l4) (h5 : Kd.C (Kd.slice 3 (Kd.int .i64)) w A5 l5.length l5) : (fitL l2 ∧ fitL l3) ∧ (l4.length ≤ 9223372036854775807 ∧ fitL l5) := ⟨⟨reads_fitL h2, reads_fitL h3⟩, h4.2.1, reads_fitL h5⟩
theorem szBinary_from (a0 a1 : Int) (l2 l3 : List (List Int)) (l4 : List Int) (l5 : List (List Int)) (h : fitL l2 ∧ fitL l3) (h' : l4.length ≤ 9223372036854775807 ∧ fitL l5) (a : Int) (ha : 0 ≤ a) (ha2 : a ≤ 1048576) :
 ∃ t, Ev (fun k => laws_szBinary.f k a0 a1 l2 l3 l4 l5 a) t ∧ t ≤ 1048576 ∧ (0 ≤ t → smallB l2 l3 l4 l5) := szBinary_fr a0 a1 l2 l3 l4 l5 h.1 h.2 h'.1 h'.2 a ha ha2
end Go.Proofs.YtkocahlifffgjaaGreat.P
namespace Go.Proofs.YtkocahlifffgjaaGreat.P
open Go.RowKit Go.Proofs.YtkocahlifffgjaaGreatW.PrintWords Go.Proofs.YtkocahlifffgjaaGreatW.PrintLast Go.Proofs.YtkocahlifffgjaaGreatW.PrintMore
set_option linter.unusedVariables false
set_option linter.unusedSimpArgs false
def szB (l2 l3 : List (List Int)) (l4 : List Int) (l5 : List (List Int)) : Nat := szRows l2 + szRows l3 + l4.length + szRows l5
def mkB0 (l2 l3 : List (List Int)) (l4 : List Int) (l5 : List (List Int)) (k : Int) : List (List Int) := mkRows l2 k
def mkB1 (l2 l3 : List (List Int)) (l4 : List Int) (l5 : List (List Int)) (k : Int) : List (List Int) := mkRows l3 (k + szRows l2)
def mkB2 (l2 l3 : List (List Int)) (l4 : List Int) (l5 : List (List Int)) (k : Int) : List Int := ramp (k + szRows l2 + szRows l3) l4.length
def mkB3 (l2 l3 : List (List Int)) (l4 : List Int) (l5 : List (List Int)) (k : Int) : List (List Int) := mkRows l5 (k + szRows l2 + szRows l3 + l4.length)
theorem szRows_bound {l : List (List Int)} (h : smallL l) : szRows l ≤ 1099511627776 := by
 have := szRows_small l 1048576 (fun r hr => by
  obtain ⟨j, hj, rfl⟩ := List.getElem_of_mem hr; have := h.2 j hj; unfold rd_L1 at this; rwa [Int.toNat_natCast, List.getD_eq_getElem?_getD, List.getElem?_eq_getElem hj] at this)
 have h1 := h.1; have : l.length * 1048576 ≤ 1048576 * 1048576 := Nat.mul_le_mul_right _ h1; omega
theorem szB_bound {l2 l3 : List (List Int)} {l4 : List Int} {l5 : List (List Int)} (h : smallB l2 l3 l4 l5) : szB l2 l3 l4 l5 ≤ 4398047559680 := by
 have h1 := szRows_bound h.1; have h2 := szRows_bound h.2.1; have h3 := h.2.2.1; have h4 := szRows_bound h.2.2.2; unfold szB; omega
set_option maxHeartbeats 8000000 in
set_option maxRecDepth 100000 in
theorem markBinary_calls (P2 P3 P4 P5 : Nat → Prop) (a0 a1 : Int) (u2 u3 u4 u5 : Value) (l2 l3 : List (List Int)) (l4 : List Int) (l5 : List (List Int)) (k : Int) (w0 w : World) (hB : Below w0.heap.size w0 w)
 (ho2 : Kd.S (Kd.slice 3 (Kd.int .i64)) 23 w w0.heap.size P2 u2 l2) (ho3 : Kd.S (Kd.slice 3 (Kd.int .i64)) 23 w w0.heap.size P3 u3 l3) (ho4 : Kd.R (Kd.int .i64) 3 w w0.heap.size P4 u4 l4) (ho5 : Kd.S (Kd.slice 3 (Kd.int .i64)) 23 w w0.heap.size P5 u5 l5)
 (hd : ∀ q, (P2 q → ¬ P3 q ∧ ¬ P4 q ∧ ¬ P5 q ∧ q < w.heap.size) ∧ (P3 q → ¬ P2 q ∧ ¬ P4 q ∧ ¬ P5 q ∧ q < w.heap.size) ∧ (P4 q → ¬ P2 q ∧ ¬ P3 q ∧ ¬ P5 q ∧ q < w.heap.size) ∧ (P5 q → ¬ P2 q ∧ ¬ P3 q ∧ ¬ P4 q ∧ q < w.heap.size))
 (ha : 0 ≤ k) (hs : k + szB l2 l3 l4 l5 ≤ 1152921504606846976) (hn2 : l2.length ≤ 1152921504606846976) (hn3 : l3.length ≤ 1152921504606846976) (hn5 : l5.length ≤ 1152921504606846976) :
 Calls Tryz.prog 15 #[.agg #[.int .i64 a0, .int .i64 a1, u2, u3, u4, u5], .int .i64 k] w fun e w' => e = .returned (.int .i64 (k + szB l2 l3 l4 l5)) ∧ Kd.S (Kd.slice 3 (Kd.int .i64)) 23 w' w0.heap.size P2 u2 (mkB0 l2 l3 l4 l5 k) ∧ Kd.S (Kd.slice 3 (Kd.int .i64)) 23 w' w0.heap.size P3 u3 (mkB1 l2 l3 l4 l5 k) ∧ Kd.R (Kd.int .i64) 3 w' w0.heap.size P4 u4 (mkB2 l2 l3 l4 l5 k) ∧ Kd.S (Kd.slice 3 (Kd.int .i64)) 23 w' w0.heap.size P5 u5 (mkB3 l2 l3 l4 l5 k) ∧ Below w0.heap.size w0 w' ∧ Kept w w' (fun q => P2 q ∨ P3 q ∨ P4 q ∨ P5 q) := by
 unfold szB at hs ⊢; unfold mkB0 mkB1 mkB2 mkB3; obtain ⟨A2, c2, eu⟩ := Kd.S_slice ho2; subst eu; obtain ⟨A3, c3, eu⟩ := Kd.S_slice ho3; subst eu; obtain ⟨A4, c4, eu⟩ := Kd.R_slice ho4; subst eu; obtain ⟨A5, c5, eu⟩ := Kd.S_slice ho5; subst eu; have hu := Tryz.underlying32; have O2 := zA ho2; have O3 := zA ho3; have O4 := zA ho4; have O5 := zA ho5; have HB := zA hB; have HD := zA hd; have HS := zA hs; have HA := zA ha; have HN := zA (show l2.length ≤ 1152921504606846976 ∧ l3.length ≤ 1152921504606846976 ∧ l5.length ≤ 1152921504606846976 from ⟨hn2, hn3, hn5⟩); clear ho2 ho3 ho4 ho5 hB hd hs ha hn2 hn3 hn5; go_enter Tryz.func15, Tryz.ntmps15; go_wp2_with fail; refine (markIntSS_calls P2 _ l2 k w0 _ (zz13 HB) (zz0z O2) (zz18 HA) (zz18 HS) HN.out.1).mono ?_; rintro e w2 ⟨rfl, ho, hb, hk⟩; have N2 := zA ho; have N3 := zA (Kd.S_kept (zz0z O3) hk (fun q h1_ h2_ => ((HD.out q).2.1 h1_).1 h2_)); have N4 := zA (Kd.R_kept (by repeat (first | exact O4.out | apply zT)) hk (fun q h1_ h2_ => ((HD.out q).2.2.1 h1_).1 h2_)); have N5 := zA (Kd.S_kept (zz0z O5) hk (fun q h1_ h2_ => ((HD.out q).2.2.2 h1_).1 h2_)); have NX := zA (blk_kept (o := .cells #[.int .i64 a0, .int .i64 a1, .slice A2 l2.length c2, .slice A3 l3.length c3, .slice A4 l4.length c4, .slice A5 l5.length c5] 32 (0, 0)) (heap_alloc_new w _) hk (fun h_ => absurd ((HD.out _).1 h_).2.2.2 (Nat.lt_irrefl _))); have NK := zA ((Kept.alloc (Kept.refl w (fun q => P2 q ∨ P3 q ∨ P4 q ∨ P5 q)) _).then_ hk (fun q hq => .inl ((fun h_ => .inl h_) hq))); have NB := zA hb; clear ho hb hk O2 O3 O4 O5 HB; have O2 := N2; have O3 := N3; have O4 := N4; have O5 := N5; have BX := NX; have HK := NK; have HB := NB; clear N2 N3 N4 N5 NX NK NB; have hc0 : w2.cell? ⟨w.heap.size, 0, none⟩ = some (.int .i64 a0) := (zK BX.out 0).trans rfl; have hc1 : w2.cell? ⟨w.heap.size, 1, none⟩ = some (.int .i64 a1) := (zK BX.out 1).trans rfl; have hc2 : w2.cell? ⟨w.heap.size, 2, none⟩ = some (.slice A2 l2.length c2) := (zK BX.out 2).trans rfl; have hc3 : w2.cell? ⟨w.heap.size, 3, none⟩ = some (.slice A3 l3.length c3) := (zK BX.out 3).trans rfl; have hc4 : w2.cell? ⟨w.heap.size, 4, none⟩ = some (.slice A4 l4.length c4) := (zK BX.out 4).trans rfl; have hc5 : w2.cell? ⟨w.heap.size, 5, none⟩ = some (.slice A5 l5.length c5) := (zK BX.out 5).trans rfl; go_wp2_with fail; clear hc0 hc1 hc2 hc3 hc4 hc5; refine (markIntSS_calls P3 _ l3 (k + szRows l2) w0 _ (zz13 HB) (zz0z O3) (zz18 HA) (zz18 HS) HN.out.2.1).mono ?_; rintro e w3 ⟨rfl, ho, hb, hk⟩; have N2 := zA (Kd.S_kept (zz0z O2) hk (fun q h1_ h2_ => ((HD.out q).1 h1_).1 h2_)); have N3 := zA ho; have N4 := zA (Kd.R_kept (by repeat (first | exact O4.out | apply zT)) hk (fun q h1_ h2_ => ((HD.out q).2.2.1 h1_).2.1 h2_)); have N5 := zA (Kd.S_kept (zz0z O5) hk (fun q h1_ h2_ => ((HD.out q).2.2.2 h1_).2.1 h2_)); have NX := zA (blk_kept BX.out hk (fun h_ => absurd ((HD.out _).2.1 h_).2.2.2 (Nat.lt_irrefl _))); have NK := zA (HK.out.then_ hk (fun q hq => .inl ((fun h_ => .inr (.inl h_)) hq))); have NB := zA hb; clear ho hb hk O2 O3 O4 O5 HB BX HK; have O2 := N2; have O3 := N3; have O4 := N4; have O5 := N5; have BX := NX; have HK := NK; have HB := NB; clear N2 N3 N4 N5 NX NK NB; have hc0 : w3.cell? ⟨w.heap.size, 0, none⟩ = some (.int .i64 a0) := (zK BX.out 0).trans rfl; have hc1 : w3.cell? ⟨w.heap.size, 1, none⟩ = some (.int .i64 a1) := (zK BX.out 1).trans rfl; have hc2 : w3.cell? ⟨w.heap.size, 2, none⟩ = some (.slice A2 l2.length c2) := (zK BX.out 2).trans rfl; have hc3 : w3.cell? ⟨w.heap.size, 3, none⟩ = some (.slice A3 l3.length c3) := (zK BX.out 3).trans rfl; have hc4 : w3.cell? ⟨w.heap.size, 4, none⟩ = some (.slice A4 l4.length c4) := (zK BX.out 4).trans rfl; have hc5 : w3.cell? ⟨w.heap.size, 5, none⟩ = some (.slice A5 l5.length c5) := (zK BX.out 5).trans rfl; go_wp2_with fail; clear hc0 hc1 hc2 hc3 hc4 hc5; refine (markIntS_calls P4 _ l4 (k + szRows l2 + szRows l3) w0 _ (zz13 HB) (by repeat (first | exact O4.out | apply zT)) (zz18 HA) (zz18 HS)).mono ?_; rintro e w4 ⟨rfl, ho, hb, hk⟩; have N2 := zA (Kd.S_kept (zz0z O2) hk (fun q h1_ h2_ => ((HD.out q).1 h1_).2.1 h2_)); have N3 := zA (Kd.S_kept (zz0z O3) hk (fun q h1_ h2_ => ((HD.out q).2.1 h1_).2.1 h2_)); have N4 := zA ho; have N5 := zA (Kd.S_kept (zz0z O5) hk (fun q h1_ h2_ => ((HD.out q).2.2.2 h1_).2.2.1 h2_)); have NX := zA (blk_kept BX.out hk (fun h_ => absurd ((HD.out _).2.2.1 h_).2.2.2 (Nat.lt_irrefl _))); have NK := zA (HK.out.then_ hk (fun q hq => .inl ((fun h_ => .inr (.inr (.inl h_))) hq))); have NB := zA hb; clear ho hb hk O2 O3 O4 O5 HB BX HK; have O2 := N2; have O3 := N3; have O4 := N4; have O5 := N5; have BX := NX; have HK := NK; have HB := NB; clear N2 N3 N4 N5 NX NK NB; have hc0 : w4.cell? ⟨w.heap.size, 0, none⟩ = some (.int .i64 a0) := (zK BX.out 0).trans rfl; have hc1 : w4.cell? ⟨w.heap.size, 1, none⟩ = some (.int .i64 a1) := (zK BX.out 1).trans rfl; have hc2 : w4.cell? ⟨w.heap.size, 2, none⟩ = some (.slice A2 l2.length c2) := (zK BX.out 2).trans rfl; have hc3 : w4.cell? ⟨w.heap.size, 3, none⟩ = some (.slice A3 l3.length c3) := (zK BX.out 3).trans rfl; have hc4 : w4.cell? ⟨w.heap.size, 4, none⟩ = some (.slice A4 l4.length c4) := (zK BX.out 4).trans rfl; have hc5 : w4.cell? ⟨w.heap.size, 5, none⟩ = some (.slice A5 l5.length c5) := (zK BX.out 5).trans rfl; go_wp2_with fail; clear hc0 hc1 hc2 hc3 hc4 hc5; refine (markIntSS_calls P5 _ l5 (k + szRows l2 + szRows l3 + l4.length) w0 _ (zz13 HB) (zz0z O5) (zz18 HA) (zz18 HS) HN.out.2.2).mono ?_; rintro e w5 ⟨rfl, ho, hb, hk⟩; have N2 := zA (Kd.S_kept (zz0z O2) hk (fun q h1_ h2_ => ((HD.out q).1 h1_).2.2.1 h2_)); have N3 := zA (Kd.S_kept (zz0z O3) hk (fun q h1_ h2_ => ((HD.out q).2.1 h1_).2.2.1 h2_)); have N4 := zA (Kd.R_kept (by repeat (first | exact O4.out | apply zT)) hk (fun q h1_ h2_ => ((HD.out q).2.2.1 h1_).2.2.1 h2_)); have N5 := zA ho; have NX := zA (blk_kept BX.out hk (fun h_ => absurd ((HD.out _).2.2.2 h_).2.2.2 (Nat.lt_irrefl _))); have NK := zA (HK.out.then_ hk (fun q hq => .inl ((fun h_ => .inr (.inr (.inr h_))) hq))); have NB := zA hb; clear ho hb hk O2 O3 O4 O5 HB BX HK; have O2 := N2; have O3 := N3; have O4 := N4; have O5 := N5; have BX := NX; have HK := NK; have HB := NB; clear N2 N3 N4 N5 NX NK NB; go_wp2; go_ret; exact ⟨by show Ending.returned (Value.int .i64 (k + szRows l2 + szRows l3 + l4.length + szRows l5)) = _; rw [show (k + ((szRows l2 + szRows l3 + l4.length + szRows l5 : Nat) : Int)) = k + szRows l2 + szRows l3 + l4.length + szRows l5 by omega], O2.out, O3.out, O4.out, O5.out, HB.out, HK.out⟩
end Go.Proofs.YtkocahlifffgjaaGreat.P
namespace Go.Proofs.YtkocahlifffgjaaGreat.P
open Go.RowKit Go.Proofs.YtkocahlifffgjaaGreatW.PrintWords Go.Proofs.YtkocahlifffgjaaGreatW.PrintLast Go.Proofs.YtkocahlifffgjaaGreatW.PrintMore
attribute [local go_sem] max2_int min2_int max_two min_two max_three min_three max_four min_four
set_option linter.unusedVariables false
set_option linter.unusedSimpArgs false
def laws_eqChart.f (k : Nat) (ae : Int) (bc : List (List Int)) (aT : Int) (aU : List (List Int)) : Option (Bool) := if ae = aT then ((laws_eqIntSS.f k bc aU).bind fun b7 => (if b7 = true then (some true) else (some false))) else (some false)
set_option maxHeartbeats 8000000 in
set_option maxRecDepth 100000 in
theorem laws_eqChart.calls (k : Nat) (ae : Int) (ct : Option Addr) (cu : Nat) (bc : List (List Int)) (aT : Int) (bN : Option Addr) (bO : Nat) (aU : List (List Int)) (r : Bool) (w : World) (eC : Kd.C (Kd.slice 3 (Kd.int .i64)) w ct bc.length bc) (eD : bc.length ≤ cu) (d1 : Kd.C (Kd.slice 3 (Kd.int .i64)) w bN aU.length aU) (d2 : aU.length ≤ bO) (h : laws_eqChart.f k ae bc aT aU = some r) :
 Calls Tryz.prog 14 #[.agg #[.int .i64 ae, .slice ct bc.length cu], .agg #[.int .i64 aT, .slice bN aU.length bO]] w fun e w' => e = .returned (.bool r) ∧ Below w.heap.size w w' := by
 have hu34 := Tryz.underlying34; have eE := zA eC; have f1 := zA eD; clear eC eD; have cx := zA d1; have cK := zA d2; clear d1 d2; have HB := zA (Below.refl w.heap.size w); have H : (if ae = aT then ((laws_eqIntSS.f k bc aU).bind fun b7 => (if b7 = true then (some true) else (some false))) else (some false)) = some r := h; clear h; by_cases c3 : ae = aT
 · rw [if_pos c3] at H; have cM : (ae == aT) = true := beq_iff_eq.mpr c3; have fo : (ae != aT) = false := bne_eq_false_iff_eq.mpr c3; clear c3; replace H := Option.bind_eq_some_iff.mp H; obtain ⟨b7, fM, H⟩ := H; have A4 := zA fM; clear fM; by_cases c5 : b7 = true
   · subst c5; rw [if_pos rfl] at H; obtain rfl := Option.some.inj H; go_enter Tryz.func14, Tryz.ntmps14; go_wp2_with (first | ((with_reducible refine gate_dst (N := 2) rfl ?_); refine box_event ?hg (N := 2) ?hd (cs := #[.int .i64 ae, .slice ct bc.length cu]) (t := 34) ?hr ?_; (case hd => rfl); (case hg => rfl); (case hr => first | (go_simp; done) | (go_simp; rfl)); intro ad hg w6 hbox hb; have aa := zA (hbox); have bD := zA ((by rw [hg]; exact (zF (zz0q HB)) : w.heap.size ≤ ad)); have ac := zA ((by rw [hg]; exact (zF (zz0q HB)) : w.heap.size ≤ ad)); replace HB := zA (zG (zz0q HB) hb); clear hb hbox hg) | ((with_reducible refine gate_dst (N := 3) rfl ?_); refine box_event ?hg (N := 3) ?hd (cs := #[.int .i64 aT, .slice bN aU.length bO]) (t := 34) ?hr ?_; (case hd => rfl); (case hg => rfl); (case hr => first | (go_simp; done) | (go_simp; rfl)); intro am hg w7 hbox hb; have ag := zA (hbox); have cJ := zA ((by rw [hg]; exact (zF (zz0h HB ac)) : w.heap.size ≤ am)); have ap := zA ((by rw [hg]; exact (zF (zz0h HB ac)) : w.heap.size ≤ am)); replace HB := zA (zG (zz0h HB ac) hb); have aC := zA ((by rw [hg]; exact Nat.ne_of_lt (blk_lt (g := ad) (o := .cells #[.int .i64 ae, .slice ct bc.length cu] 34 (0, 0)) (zz0s aa)) : ad ≠ am)); have aD := zA ((by rw [hg]; exact Nat.ne_of_gt (blk_lt (g := ad) (o := .cells #[.int .i64 ae, .slice ct bc.length cu] 34 (0, 0)) (zz0s aa)) : am ≠ ad)); replace aa := zA (zMp aa.out hb); clear hb hbox hg; have hnb8 := aC.out; have hnc8 := aD.out; obtain ⟨ha, hc⟩ := zk2 aa.out; obtain ⟨f2, f3⟩ := zk2 ag.out; have hfz10_1 := zL ag.out 1) | ((with_reducible refine gate_callee (f := 34) rfl ?_); refine goesL_ (some 14) rfl rfl Tryz.func34 zz1c rfl #[.slice ct bc.length cu, .slice bN aU.length bO] rfl zz0d ?_; (with_reducible refine (laws_eqIntSS.calls k _ _ bc _ _ aU true _ ?aj ?ak ?aI ?aJ A4.out).mono ?_); (case aj => exact (zz0t eE HB)); (case ak => exact f1.out); (case aI => exact (zz0t cx HB)); (case aJ => exact cK.out); rintro e w' ⟨rfl, ⟨nd, rfl⟩⟩; refine ⟨_, rfl, ?_⟩)); go_ret; exact ⟨zz0r, zz0e HB ac ap⟩
   · replace c5 := Bool.eq_false_iff.mpr c5; subst c5; rw [if_neg zFt] at H; obtain rfl := Option.some.inj H; go_enter Tryz.func14, Tryz.ntmps14; go_wp2_with (first | ((with_reducible refine gate_dst (N := 2) rfl ?_); refine box_event ?hg (N := 2) ?hd (cs := #[.int .i64 ae, .slice ct bc.length cu]) (t := 34) ?hr ?_; (case hd => rfl); (case hg => rfl); (case hr => first | (go_simp; done) | (go_simp; rfl)); intro ad hg ib hbox hb; have aa := zA (hbox); have bD := zA ((by rw [hg]; exact (zF (zz0q HB)) : w.heap.size ≤ ad)); have ac := zA ((by rw [hg]; exact (zF (zz0q HB)) : w.heap.size ≤ ad)); replace HB := zA (zG (zz0q HB) hb); clear hb hbox hg) | ((with_reducible refine gate_dst (N := 3) rfl ?_); refine box_event ?hg (N := 3) ?hd (cs := #[.int .i64 aT, .slice bN aU.length bO]) (t := 34) ?hr ?_; (case hd => rfl); (case hg => rfl); (case hr => first | (go_simp; done) | (go_simp; rfl)); intro am hg kR hbox hb; have ag := zA (hbox); have cJ := zA ((by rw [hg]; exact (zF (zz0h HB ac)) : w.heap.size ≤ am)); have ap := zA ((by rw [hg]; exact (zF (zz0h HB ac)) : w.heap.size ≤ am)); replace HB := zA (zG (zz0h HB ac) hb); have aC := zA ((by rw [hg]; exact Nat.ne_of_lt (blk_lt (g := ad) (o := .cells #[.int .i64 ae, .slice ct bc.length cu] 34 (0, 0)) (zz0s aa)) : ad ≠ am)); have aD := zA ((by rw [hg]; exact Nat.ne_of_gt (blk_lt (g := ad) (o := .cells #[.int .i64 ae, .slice ct bc.length cu] 34 (0, 0)) (zz0s aa)) : am ≠ ad)); replace aa := zA (zMp aa.out hb); clear hb hbox hg; have hnb13 := aC.out; have hnc13 := aD.out; obtain ⟨hcz14_0, hcz14_1⟩ := zk2 aa.out; obtain ⟨hcz15_0, hcz15_1⟩ := zk2 ag.out; have hfz15_1 := zL ag.out 1) | ((with_reducible refine gate_callee (f := 34) rfl ?_); refine goesL_ (some 14) rfl rfl Tryz.func34 zz1c rfl #[.slice ct bc.length cu, .slice bN aU.length bO] rfl zz0d ?_; (with_reducible refine (laws_eqIntSS.calls k _ _ bc _ _ aU false _ ?aj ?ak ?aI ?aJ A4.out).mono ?_); (case aj => exact (zz0t eE HB)); (case ak => exact f1.out); (case aI => exact (zz0t cx HB)); (case aJ => exact cK.out); rintro e w' ⟨rfl, ⟨nd, rfl⟩⟩; refine ⟨_, rfl, ?_⟩)); go_ret; exact ⟨zz0r, zz0e HB ac ap⟩
 · rw [if_neg c3] at H; have cM : (ae == aT) = false := beq_eq_false_iff_ne.mpr c3; have fo : (ae != aT) = true := bne_iff_ne.mpr c3; obtain rfl := Option.some.inj H; go_enter Tryz.func14, Tryz.ntmps14; go_wp2_with (first | ((with_reducible refine gate_dst (N := 2) rfl ?_); refine box_event ?hg (N := 2) ?hd (cs := #[.int .i64 ae, .slice ct bc.length cu]) (t := 34) ?hr ?_; (case hd => rfl); (case hg => rfl); (case hr => first | (go_simp; done) | (go_simp; rfl)); intro ad hg qk hbox hb; have aa := zA (hbox); have bD := zA ((by rw [hg]; exact (zF (zz0q HB)) : w.heap.size ≤ ad)); have ac := zA ((by rw [hg]; exact (zF (zz0q HB)) : w.heap.size ≤ ad)); replace HB := zA (zG (zz0q HB) hb); clear hb hbox hg) | ((with_reducible refine gate_dst (N := 3) rfl ?_); refine box_event ?hg (N := 3) ?hd (cs := #[.int .i64 aT, .slice bN aU.length bO]) (t := 34) ?hr ?_; (case hd => rfl); (case hg => rfl); (case hr => first | (go_simp; done) | (go_simp; rfl)); intro am hg oc hbox hb; have ag := zA (hbox); have cJ := zA ((by rw [hg]; exact (zF (zz0h HB ac)) : w.heap.size ≤ am)); have ap := zA ((by rw [hg]; exact (zF (zz0h HB ac)) : w.heap.size ≤ am)); replace HB := zA (zG (zz0h HB ac) hb); have aC := zA ((by rw [hg]; exact Nat.ne_of_lt (blk_lt (g := ad) (o := .cells #[.int .i64 ae, .slice ct bc.length cu] 34 (0, 0)) (zz0s aa)) : ad ≠ am)); have aD := zA ((by rw [hg]; exact Nat.ne_of_gt (blk_lt (g := ad) (o := .cells #[.int .i64 ae, .slice ct bc.length cu] 34 (0, 0)) (zz0s aa)) : am ≠ ad)); replace aa := zA (zMp aa.out hb); clear hb hbox hg; have hnb18 := aC.out; have hnc18 := aD.out; obtain ⟨f4, f5⟩ := zk2 aa.out; obtain ⟨gZ, g0⟩ := zk2 ag.out; have hfz20_1 := zL ag.out 1)); go_ret; exact ⟨zz0r, zz0e HB ac ap⟩
end Go.Proofs.YtkocahlifffgjaaGreat.P
namespace Go.Proofs.YtkocahlifffgjaaGreat.P
open Go.RowKit Go.Proofs.YtkocahlifffgjaaGreatW.PrintWords Go.Proofs.YtkocahlifffgjaaGreatW.PrintLast Go.Proofs.YtkocahlifffgjaaGreatW.PrintMore
set_option linter.unusedVariables false
set_option linter.unusedSimpArgs false
theorem eqChart_ev (n : Int) (l : List (List Int)) (hlen : l.length ≤ 1048576) (hs : ∀ i : Nat, i < l.length → (rd_L1 l i).length ≤ 1048576) : Ev (fun k => laws_eqChart.f k n l n l) true := by
 obtain ⟨K, h⟩ := eqIntSS_ev l hlen hs; dsimp only at h; refine ⟨K, fun k hk => ?_⟩; dsimp only; unfold laws_eqChart.f; rw [if_pos rfl, h k hk]; rfl
set_option maxHeartbeats 4000000 in
set_option maxRecDepth 100000 in
theorem markChart_calls (P0_ : Nat → Prop) (a0 : Int) (u : Value) (l0 : List (List Int)) (k : Int) (w0 w : World) (hB : Below w0.heap.size w0 w) (ho0 : Kd.S (Kd.slice 3 (Kd.int .i64)) 23 w w0.heap.size P0_ u l0)
 (ha : 0 ≤ k) (hs : k + szRows l0 ≤ 1152921504606846976) (hlen : l0.length ≤ 1152921504606846976) :
 Calls Tryz.prog 16 #[.agg #[.int .i64 a0, u], .int .i64 k] w fun e w' => e = .returned (.int .i64 (k + szRows l0)) ∧ Kd.S (Kd.slice 3 (Kd.int .i64)) 23 w' w0.heap.size P0_ u (mkRows l0 k) ∧ Below w0.heap.size w0 w' ∧ Kept w w' P0_ := by
 obtain ⟨A, c, eu⟩ := Kd.R_slice (Kd.S_R ho0); subst eu; have hu := Tryz.underlying34; have HO := zA ho0; have HB := zA hB; have HS := zA hs; have HA := zA ha; have HL := zA hlen; clear ho0 hB hs ha hlen; go_enter Tryz.func16, Tryz.ntmps16; go_wp2_with (go_at_call 35; refine (markIntSS_calls P0_ _ l0 k w0 _ (zz13 HB) (zz0z HO) HA.out HS.out HL.out).mono ?_; rintro e w' ⟨rfl, ho, hb, hk⟩; have NB := zA hb; have NO := zA ho; have NK := zA hk; clear ho hb hk); go_ret; exact ⟨rfl, NO.out, NB.out, (Kept.alloc (Kept.refl _ _) _).then_ NK.out (fun q hq => .inl hq)⟩
end Go.Proofs.YtkocahlifffgjaaGreat.P
namespace Go.Proofs.YtkocahlifffgjaaGreat.P
open Go.RowKit Go.Proofs.YtkocahlifffgjaaGreatW.PrintWords Go.Proofs.YtkocahlifffgjaaGreatW.PrintLast Go.Proofs.YtkocahlifffgjaaGreatW.PrintMore
attribute [local go_sem] max2_int min2_int max_two min_two max_three min_three max_four min_four
set_option linter.unusedVariables false
set_option linter.unusedSimpArgs false
def laws_szChart.f (k : Nat) (ae : Int) (bc : List (List Int)) (a1 : Int) : Option (Int) := (laws_szIntSS.f k bc a1).bind fun aH => (if aH < 0 then (some (-1)) else (some aH))
set_option maxHeartbeats 8000000 in
set_option maxRecDepth 100000 in
theorem laws_szChart.calls (k : Nat) (ae : Int) (ct : Option Addr) (cu : Nat) (bc : List (List Int)) (a1 : Int) (r : Int) (w : World) (eC : Kd.C (Kd.slice 3 (Kd.int .i64)) w ct bc.length bc) (eD : bc.length ≤ cu) (h : laws_szChart.f k ae bc a1 = some r) :
 Calls Tryz.prog 6 #[.agg #[.int .i64 ae, .slice ct bc.length cu], .int .i64 a1] w fun e w' => e = .returned (.int .i64 r) ∧ Below w.heap.size w w' := by
 have hu27 := Tryz.underlying27; have eE := zA eC; have f1 := zA eD; clear eC eD; have HB := zA (Below.refl w.heap.size w); have H : ((laws_szIntSS.f k bc a1).bind fun aH => (if aH < 0 then (some (-1)) else (some aH))) = some r := h; clear h; replace H := Option.bind_eq_some_iff.mp H; obtain ⟨aH, g5, H⟩ := H; have A3 := zA g5; clear g5; by_cases c4 : aH < 0
 · rw [if_pos c4] at H; have dr := decide_eq_true c4; clear c4; obtain rfl := Option.some.inj H; go_enter Tryz.func6, Tryz.ntmps6; go_wp2_with (first | ((with_reducible refine gate_dst (N := 2) rfl ?_); refine box_event ?hg (N := 2) ?hd (cs := #[.int .i64 ae, .slice ct bc.length cu]) (t := 27) ?hr ?_; (case hd => rfl); (case hg => rfl); (case hr => first | (go_simp; done) | (go_simp; rfl)); intro ad hg w5 hbox hb; have aa := zA (hbox); have bD := zA ((by rw [hg]; exact (zF (zz0q HB)) : w.heap.size ≤ ad)); have ac := zA ((by rw [hg]; exact (zF (zz0q HB)) : w.heap.size ≤ ad)); replace HB := zA (zG (zz0q HB) hb); clear hb hbox hg; obtain ⟨eK, eL⟩ := zk2 aa.out; have hfz6_1 := zL aa.out 1) | ((with_reducible refine gate_callee (f := 22) rfl ?_); refine goesL_ (some 8) rfl rfl Tryz.func22 zz1c rfl #[.slice ct bc.length cu, .int .i64 a1] rfl zz0d ?_; (with_reducible refine (laws_szIntSS.calls k _ _ bc a1 aH _ ?aj ?ak A3.out).mono ?_); (case aj => exact (zz0t eE HB)); (case ak => exact f1.out); rintro e w' ⟨rfl, ⟨nd, rfl⟩⟩; refine ⟨_, rfl, ?_⟩)); go_ret; exact ⟨zz0r, zz0h HB ac⟩
 · rw [if_neg c4] at H; have dr := decide_eq_false c4; clear c4; obtain rfl := Option.some.inj H; go_enter Tryz.func6, Tryz.ntmps6; go_wp2_with (first | ((with_reducible refine gate_dst (N := 2) rfl ?_); refine box_event ?hg (N := 2) ?hd (cs := #[.int .i64 ae, .slice ct bc.length cu]) (t := 27) ?hr ?_; (case hd => rfl); (case hg => rfl); (case hr => first | (go_simp; done) | (go_simp; rfl)); intro ad hg w7 hbox hb; have aa := zA (hbox); have bD := zA ((by rw [hg]; exact (zF (zz0q HB)) : w.heap.size ≤ ad)); have ac := zA ((by rw [hg]; exact (zF (zz0q HB)) : w.heap.size ≤ ad)); replace HB := zA (zG (zz0q HB) hb); clear hb hbox hg; obtain ⟨eY, eZ⟩ := zk2 aa.out; have hfz8_1 := zL aa.out 1) | ((with_reducible refine gate_callee (f := 22) rfl ?_); refine goesL_ (some 8) rfl rfl Tryz.func22 zz1c rfl #[.slice ct bc.length cu, .int .i64 a1] rfl zz0d ?_; (with_reducible refine (laws_szIntSS.calls k _ _ bc a1 aH _ ?aj ?ak A3.out).mono ?_); (case aj => exact (zz0t eE HB)); (case ak => exact f1.out); rintro e w' ⟨rfl, ⟨nd, rfl⟩⟩; refine ⟨_, rfl, ?_⟩)); go_ret; exact ⟨zz0r, zz0h HB ac⟩
def laws_toChart.f (k : Nat) (ae : Int) (bc : List (List Int)) : Option (Int × (List (List Int))) := (laws_toIntSS.f k bc).bind fun a7 => (some (ae, a7))
set_option maxHeartbeats 8000000 in
set_option maxRecDepth 100000 in
theorem laws_toChart.calls (k : Nat) (ae : Int) (ct : Option Addr) (cu : Nat) (bc : List (List Int)) (r1 : Int) (r2 : List (List Int)) (w : World) (eC : Kd.C (Kd.slice 3 (Kd.int .i64)) w ct bc.length bc) (eD : bc.length ≤ cu) (h : laws_toChart.f k ae bc = some (r1, r2)) :
 Calls Tryz.prog 9 #[.agg #[.int .i64 ae, .slice ct bc.length cu]] w fun e w' => ∃ q3 : Value, e = .returned (.agg #[.int .i64 r1, q3]) ∧ Kd.S (Kd.slice 3 (Kd.int .i64)) 23 w' w.heap.size (fun _ => True) q3 r2 ∧ Below w.heap.size w w' := by
 have hu27 := Tryz.underlying27; have hu34 := Tryz.underlying34; have eE := zA eC; have f1 := zA eD; clear eC eD; have HB := zA (Below.refl w.heap.size w); have H : ((laws_toIntSS.f k bc).bind fun a7 => (some (ae, a7))) = some (r1, r2) := h; clear h; replace H := Option.bind_eq_some_iff.mp H; obtain ⟨a7, j5, H⟩ := H; have A2 := zA j5; clear j5; simp only [Option.some.injEq, Prod.mk.injEq] at H; obtain ⟨rfl, rfl⟩ := H; go_enter Tryz.func9, Tryz.ntmps9; go_wp2_with (first | ((with_reducible refine gate_dst (N := 1) rfl ?_); refine box_event ?hg (N := 1) ?hd (cs := #[.int .i64 ae, .slice ct bc.length cu]) (t := 27) ?hr ?_; (case hd => rfl); (case hg => rfl); (case hr => first | (go_simp; done) | (go_simp; rfl)); intro ad hg w3 hbox hb; have aa := zA (hbox); have bD := zA ((by rw [hg]; exact (zF (zz0q HB)) : w.heap.size ≤ ad)); have ac := zA ((by rw [hg]; exact (zF (zz0q HB)) : w.heap.size ≤ ad)); replace HB := zA (zG (zz0q HB) hb); clear hb hbox hg) | ((with_reducible refine gate_dst (N := 2) rfl ?_); refine box_event ?hg (N := 2) ?hd (cs := #[.int .i64 0, .slice none 0 0]) (t := 34) ?hr ?_; (case hd => rfl); (case hg => rfl); (case hr => first | (go_simp; done) | (go_simp; rfl)); intro am hg w4 hbox hb; have ag := zA (hbox); have cJ := zA ((by rw [hg]; exact (zF (zz0h HB ac)) : w.heap.size ≤ am)); have ap := zA ((by rw [hg]; exact (zF (zz0h HB ac)) : w.heap.size ≤ am)); replace HB := zA (zG (zz0h HB ac) hb); have aC := zA ((by rw [hg]; exact Nat.ne_of_lt (blk_lt (g := ad) (o := .cells #[.int .i64 ae, .slice ct bc.length cu] 27 (0, 0)) (zz0s aa)) : ad ≠ am)); have aD := zA ((by rw [hg]; exact Nat.ne_of_gt (blk_lt (g := ad) (o := .cells #[.int .i64 ae, .slice ct bc.length cu] 27 (0, 0)) (zz0s aa)) : am ≠ ad)); replace aa := zA (zMp aa.out hb); clear hb hbox hg) | ((with_reducible refine gate_dst (N := 3) rfl ?_); refine box_event ?hg (N := 3) ?hd (cs := #[.int .i64 0, .slice none 0 0]) (t := 34) ?hr ?_; (case hd => rfl); (case hg => rfl); (case hr => first | (go_simp; done) | (go_simp; rfl)); intro bn hg w5 hbox hb; have aX := zA (hbox); have GW103 := zA ((by rw [hg]; exact (zF (zz0e HB ac ap)) : w.heap.size ≤ bn)); have dO := zA ((by rw [hg]; exact (zF (zz0e HB ac ap)) : w.heap.size ≤ bn)); replace HB := zA (zG (zz0e HB ac ap) hb); have db := zA ((by rw [hg]; exact Nat.ne_of_lt (blk_lt (g := ad) (o := .cells #[.int .i64 ae, .slice ct bc.length cu] 27 (0, 0)) (zz0s aa)) : ad ≠ bn)); have gj := zA ((by rw [hg]; exact Nat.ne_of_gt (blk_lt (g := ad) (o := .cells #[.int .i64 ae, .slice ct bc.length cu] 27 (0, 0)) (zz0s aa)) : bn ≠ ad)); replace aa := zA (zMp aa.out hb); have cL := zA ((by rw [hg]; exact Nat.ne_of_lt (blk_lt (g := am) (o := .cells #[.int .i64 0, .slice none 0 0] 34 (0, 0)) (zz0s ag)) : am ≠ bn)); have gl := zA ((by rw [hg]; exact Nat.ne_of_gt (blk_lt (g := am) (o := .cells #[.int .i64 0, .slice none 0 0] 34 (0, 0)) (zz0s ag)) : bn ≠ am)); replace ag := zA (zMp ag.out hb); clear hb hbox hg; have hnb6 := aC.out; have hnc6 := aD.out; have hnb7 := db.out; have hnc7 := gj.out; obtain ⟨eY, eZ⟩ := zk2 aa.out; have hnb9 := gl.out; have hnc9 := cL.out; obtain ⟨f2, f3⟩ := zk2 aX.out; have hfz10_0 := zL aX.out 0; have hfz10_1 := zL aX.out 1) | ((with_reducible refine gate_callee (f := 28) rfl ?_); refine goesL_ (some 9) rfl rfl Tryz.func28 zz1c rfl #[.slice ct bc.length cu] rfl zz0d ?_; (with_reducible refine (laws_toIntSS.calls k _ _ bc a7 _ ?aj ?ak A2.out).mono ?_); (case aj => exact zS eE.out (zz0b HB ac ap dO)); (case ak => exact f1.out); rintro e ib ⟨li, rfl, cj, hb⟩; refine ⟨_, rfl, ?_⟩; have da := zA (Kd.S_lower cj (zF (zz0b HB ac ap dO))); replace aa := zA (zM (g := ad) (o := .cells #[.int .i64 ae, .slice ct bc.length cu] 27 (0, 0)) (zz08 db aa) hb); replace ag := zA (zM (g := am) (o := .cells #[.int .i64 0, .slice none 0 0] 34 (0, 0)) (zz08 cL ag) hb); replace aX := zA (zM (g := bn) (o := .cells #[.int .i64 ae, .slice none 0 0] 34 (0, 0)) (by (with_reducible repeat (first | refine zI ?_ _ | refine zJ ?_ | refine zH ?_ _)); refine zO (cs := #[.int .i64 0, .slice none 0 0]) ?_ 0 _ rfl; (with_reducible repeat (first | refine zI ?_ _ | refine zJ ?_ | refine zH ?_ _)); exact aX.out) hb); replace HB := zA (zG (zz0b HB ac ap dO) hb); (try clear hb); (try clear hb2); (try clear hk); (try clear hi); (try clear cj); obtain ⟨od, oe, eo12⟩ := Kd.S_slice da.out; subst eo12; obtain ⟨hcz13_0, hcz13_1⟩ := zk2 aX.out; have hfz13_0 := zL aX.out 0; have hfz13_1 := zL aX.out 1; obtain ⟨hcz14_0, hcz14_1⟩ := zk2 ag.out; have hfz14_0 := zL ag.out 0; have hfz14_1 := zL ag.out 1)); refine bodyPost_ret (results_cell_row rfl _ _ am 34 #[.int .i64 ae, .slice od a7.length oe] (0, 0) _ rfl (by (with_reducible repeat (first | refine zI ?_ _ | refine zJ ?_ | refine zH ?_ _)); refine zO (cs := #[.int .i64 ae, .slice none 0 0]) ?_ 1 _ rfl; (with_reducible repeat (first | refine zI ?_ _ | refine zJ ?_ | refine zH ?_ _)); refine zO (cs := #[.int .i64 0, .slice none 0 0]) ?_ 0 _ rfl; (with_reducible repeat (first | refine zI ?_ _ | refine zJ ?_ | refine zH ?_ _)); refine zN ?_ cL.out _; (with_reducible repeat (first | refine zI ?_ _ | refine zJ ?_ | refine zH ?_ _)); exact ag.out) Tryz.underlying34 rfl zz1c) rfl ?_; exact ⟨_, zz0r, by (with_reducible repeat (first | apply Kd.S_alloc | apply Kd.S_drewN | apply Kd.S_drew)); exact Kd.S_mono (Kd.S_far (p := ⟨am, 1, none⟩) (Kd.S_far (p := ⟨am, 0, none⟩) (Kd.S_far (p := ⟨bn, 1, none⟩) (Kd.S_types (Kd.S_types da.out aX.out zz1f) ag.out zz1f) (fun _ hk => hk.1.2) (.slice od a7.length oe)) (fun _ hk => hk.2) (.int .i64 ae)) (fun _ hk => hk.2) (.slice od a7.length oe)) (fun _ hk => trivial), zz0b HB ac ap dO⟩
end Go.Proofs.YtkocahlifffgjaaGreat.P
namespace Go.Proofs.YtkocahlifffgjaaGreat.P
open Go.RowKit Go.Proofs.YtkocahlifffgjaaGreatW.PrintWords
set_option linter.unusedVariables false
set_option linter.unusedSimpArgs false
theorem reads_smallC {w : World} {A : Option Addr} {l : List (List Int)} (h : Kd.C (Kd.slice 3 (Kd.int .i64)) w A l.length l) : l.length ≤ 9223372036854775807 ∧ ∀ i : Nat, i < l.length → (rd_L1 l i).length ≤ 9223372036854775807 := reads_fitL h
theorem szChart_from (a0 : Int) (l1 : List (List Int)) (h1 : l1.length ≤ 9223372036854775807) (h2 : ∀ i : Nat, i < l1.length → (rd_L1 l1 i).length ≤ 9223372036854775807) (a : Int) (ha : 0 ≤ a) (ha2 : a ≤ 1048576) :
 ∃ t, Ev (fun k => laws_szChart.f k a0 l1 a) t ∧ t ≤ 1048576 ∧ (0 ≤ t → smallL l1) := by
 obtain ⟨t, ⟨K, e⟩, b, s⟩ := szIntSS_fr l1 h1 h2 a ha ha2; dsimp only at e; by_cases n : t < 0
 · refine ⟨-1, ⟨K, fun k hk => ?_⟩, zz1g, fun h => by omega⟩; dsimp only; unfold laws_szChart.f; rw [e k hk]; simp only [Option.bind_some]; rw [if_pos n]
 · refine ⟨t, ⟨K, fun k hk => ?_⟩, b, s⟩; dsimp only; unfold laws_szChart.f; rw [e k hk]; simp only [Option.bind_some]; rw [if_neg n]
theorem toChart_ev (a0 : Int) (l1 : List (List Int)) (h : smallL l1) : Ev (fun k => laws_toChart.f k a0 l1) (a0, l1) := by
 obtain ⟨K, e⟩ := toIntSS_ev l1 h; dsimp only at e; refine ⟨K, fun k hk => ?_⟩; dsimp only; unfold laws_toChart.f; rw [e k hk]; rfl
end Go.Proofs.YtkocahlifffgjaaGreat.P
namespace Go.Proofs.YtkocahlifffgjaaGreat.P
open Go.RowKit Go.Proofs.YtkocahlifffgjaaGreatW.PrintWords Go.Proofs.YtkocahlifffgjaaGreatW.PrintLast Go.Proofs.YtkocahlifffgjaaGreatW.PrintMore
attribute [local go_sem] max2_int min2_int max_two min_two max_three min_three max_four min_four
set_option linter.unusedVariables false
set_option linter.unusedSimpArgs false
def cmp_isNaN_int.f (a0 : Int) : Option (Bool) := some (a0 != a0)
set_option maxHeartbeats 8000000 in
set_option maxRecDepth 100000 in
theorem cmp_isNaN_int.calls (a0 : Int) (r : Bool) (w : World) (h : cmp_isNaN_int.f a0 = some r) :
 Calls Tryz.prog 81 #[.int .i64 a0] w fun e w' => e = .returned (.bool r) ∧ Drawn0 w w' := by
 have H : (some (a0 != a0)) = some r := h; clear h; obtain rfl := Option.some.inj H; go_enter Tryz.func81, Tryz.ntmps81; go_wp2; go_ret; exact ⟨zz0y, zz0w⟩
def cmp_Compare_int.f (a0 : Int) (a1 : Int) : Option (Int) := (cmp_isNaN_int.f a0).bind fun cZ => ((cmp_isNaN_int.f a1).bind fun aH => (if cZ = true then (if aH = true then (some 0) else (some (-1))) else (if aH = true then (some 1) else (if a0 < a1 then (some (-1)) else (if a0 > a1 then (some 1) else (some 0))))))
set_option maxHeartbeats 8000000 in
set_option maxRecDepth 100000 in
theorem cmp_Compare_int.calls (a0 : Int) (a1 : Int) (r : Int) (w : World) (h : cmp_Compare_int.f a0 a1 = some r) :
 Calls Tryz.prog 72 #[.int .i64 a0, .int .i64 a1] w fun e w' => e = .returned (.int .i64 r) ∧ Drawn0 w w' := by
 have H : ((cmp_isNaN_int.f a0).bind fun cZ => ((cmp_isNaN_int.f a1).bind fun aH => (if cZ = true then (if aH = true then (some 0) else (some (-1))) else (if aH = true then (some 1) else (if a0 < a1 then (some (-1)) else (if a0 > a1 then (some 1) else (some 0))))))) = some r := h; clear h; replace H := Option.bind_eq_some_iff.mp H; obtain ⟨cZ, g5, H⟩ := H; have A3 := zA g5; clear g5; replace H := Option.bind_eq_some_iff.mp H; obtain ⟨aH, fM, H⟩ := H; have A4 := zA fM; clear fM; by_cases c5 : cZ = true
 · subst c5; rw [if_pos rfl] at H; by_cases c6 : aH = true
   · subst c6; rw [if_pos rfl] at H; obtain rfl := Option.some.inj H; go_enter Tryz.func72, Tryz.ntmps72; go_wp2_with (first | ((with_reducible refine gate_callee (f := 81) rfl ?_); refine goesL_ (some 8) rfl rfl Tryz.func81 zz1c rfl #[.int .i64 a0] rfl zz0d ?_; (with_reducible refine (cmp_isNaN_int.calls a0 true _ A3.out).mono ?_); rintro e w' ⟨rfl, ⟨nd, rfl⟩⟩; refine ⟨_, rfl, ?_⟩) | ((with_reducible refine gate_callee (f := 81) rfl ?_); refine goesL_ (some 10) rfl rfl Tryz.func81 zz1c rfl #[.int .i64 a1] rfl zz0d ?_; (with_reducible refine (cmp_isNaN_int.calls a1 true _ A4.out).mono ?_); rintro e w' ⟨rfl, ⟨nd, rfl⟩⟩; refine ⟨_, rfl, ?_⟩)); go_ret; exact ⟨zz0y, zz0w⟩
   · replace c6 := Bool.eq_false_iff.mpr c6; subst c6; rw [if_neg zFt] at H; obtain rfl := Option.some.inj H; go_enter Tryz.func72, Tryz.ntmps72; go_wp2_with (first | ((with_reducible refine gate_callee (f := 81) rfl ?_); refine goesL_ (some 8) rfl rfl Tryz.func81 zz1c rfl #[.int .i64 a0] rfl zz0d ?_; (with_reducible refine (cmp_isNaN_int.calls a0 true _ A3.out).mono ?_); rintro e w' ⟨rfl, ⟨nd, rfl⟩⟩; refine ⟨_, rfl, ?_⟩) | ((with_reducible refine gate_callee (f := 81) rfl ?_); refine goesL_ (some 10) rfl rfl Tryz.func81 zz1c rfl #[.int .i64 a1] rfl zz0d ?_; (with_reducible refine (cmp_isNaN_int.calls a1 false _ A4.out).mono ?_); rintro e w' ⟨rfl, ⟨nd, rfl⟩⟩; refine ⟨_, rfl, ?_⟩)); go_ret; exact ⟨zz0y, zz0w⟩
 · replace c5 := Bool.eq_false_iff.mpr c5; subst c5; rw [if_neg zFt] at H; by_cases c7 : aH = true
   · subst c7; rw [if_pos rfl] at H; obtain rfl := Option.some.inj H; go_enter Tryz.func72, Tryz.ntmps72; go_wp2_with (first | ((with_reducible refine gate_callee (f := 81) rfl ?_); refine goesL_ (some 8) rfl rfl Tryz.func81 zz1c rfl #[.int .i64 a0] rfl zz0d ?_; (with_reducible refine (cmp_isNaN_int.calls a0 false _ A3.out).mono ?_); rintro e w' ⟨rfl, ⟨nd, rfl⟩⟩; refine ⟨_, rfl, ?_⟩) | ((with_reducible refine gate_callee (f := 81) rfl ?_); refine goesL_ (some 10) rfl rfl Tryz.func81 zz1c rfl #[.int .i64 a1] rfl zz0d ?_; (with_reducible refine (cmp_isNaN_int.calls a1 true _ A4.out).mono ?_); rintro e w' ⟨rfl, ⟨nd, rfl⟩⟩; refine ⟨_, rfl, ?_⟩)); go_ret; exact ⟨zz0y, zz0w⟩
   · replace c7 := Bool.eq_false_iff.mpr c7; subst c7; rw [if_neg zFt] at H; by_cases c8 : a0 < a1
     · rw [if_pos c8] at H; have dY := decide_eq_true c8; clear c8; obtain rfl := Option.some.inj H; go_enter Tryz.func72, Tryz.ntmps72; go_wp2_with (first | ((with_reducible refine gate_callee (f := 81) rfl ?_); refine goesL_ (some 8) rfl rfl Tryz.func81 zz1c rfl #[.int .i64 a0] rfl zz0d ?_; (with_reducible refine (cmp_isNaN_int.calls a0 false _ A3.out).mono ?_); rintro e w' ⟨rfl, ⟨nd, rfl⟩⟩; refine ⟨_, rfl, ?_⟩) | ((with_reducible refine gate_callee (f := 81) rfl ?_); refine goesL_ (some 10) rfl rfl Tryz.func81 zz1c rfl #[.int .i64 a1] rfl zz0d ?_; (with_reducible refine (cmp_isNaN_int.calls a1 false _ A4.out).mono ?_); rintro e w' ⟨rfl, ⟨nd, rfl⟩⟩; refine ⟨_, rfl, ?_⟩)); go_ret; exact ⟨zz0y, zz0w⟩
     · rw [if_neg c8] at H; have dY := decide_eq_false c8; clear c8; by_cases c9 : a0 > a1
       · rw [if_pos c9] at H; have eN : decide (a1 < a0) = true := decide_eq_true c9; clear c9; obtain rfl := Option.some.inj H; go_enter Tryz.func72, Tryz.ntmps72; go_wp2_with (first | ((with_reducible refine gate_callee (f := 81) rfl ?_); refine goesL_ (some 8) rfl rfl Tryz.func81 zz1c rfl #[.int .i64 a0] rfl zz0d ?_; (with_reducible refine (cmp_isNaN_int.calls a0 false _ A3.out).mono ?_); rintro e w' ⟨rfl, ⟨nd, rfl⟩⟩; refine ⟨_, rfl, ?_⟩) | ((with_reducible refine gate_callee (f := 81) rfl ?_); refine goesL_ (some 10) rfl rfl Tryz.func81 zz1c rfl #[.int .i64 a1] rfl zz0d ?_; (with_reducible refine (cmp_isNaN_int.calls a1 false _ A4.out).mono ?_); rintro e w' ⟨rfl, ⟨nd, rfl⟩⟩; refine ⟨_, rfl, ?_⟩)); go_ret; exact ⟨zz0y, zz0w⟩
       · rw [if_neg c9] at H; have eN : decide (a1 < a0) = false := decide_eq_false c9; clear c9; obtain rfl := Option.some.inj H; go_enter Tryz.func72, Tryz.ntmps72; go_wp2_with (first | ((with_reducible refine gate_callee (f := 81) rfl ?_); refine goesL_ (some 8) rfl rfl Tryz.func81 zz1c rfl #[.int .i64 a0] rfl zz0d ?_; (with_reducible refine (cmp_isNaN_int.calls a0 false _ A3.out).mono ?_); rintro e w' ⟨rfl, ⟨nd, rfl⟩⟩; refine ⟨_, rfl, ?_⟩) | ((with_reducible refine gate_callee (f := 81) rfl ?_); refine goesL_ (some 10) rfl rfl Tryz.func81 zz1c rfl #[.int .i64 a1] rfl zz0d ?_; (with_reducible refine (cmp_isNaN_int.calls a1 false _ A4.out).mono ?_); rintro e w' ⟨rfl, ⟨nd, rfl⟩⟩; refine ⟨_, rfl, ?_⟩)); go_ret; exact ⟨zz0y, zz0w⟩
def slices_Compare_int_int.l0 : Nat → List Int → List Int → List Int → Int → Int → Option (Int)
 | 0, _, _, _, _, _ => none
 | k + 1, x0, x1, x9, lc, ek => if ek < lc then (if 0 ≤ ek then (if ek < (x9.length : Int) then (if ek ≥ (x1.length : Int) then (some 1) else (if ek < (x1.length : Int) then ((cmp_Compare_int.f (rd x9 ek) (rd x1 ek)).bind fun b7 => (if b7 = 0 then (slices_Compare_int_int.l0 k x0 x1 x9 lc (wrap64 (ek + 1))) else (some b7))) else (none))) else (none)) else (none)) else (if (x0.length : Int) < (x1.length : Int) then (some (-1)) else (some 0))
def slices_Compare_int_int.f (k : Nat) (l0 : List Int) (l1 : List Int) : Option (Int) := slices_Compare_int_int.l0 k l0 l1 l0 (l0.length : Int) 0
set_option maxHeartbeats 8000000 in
set_option maxRecDepth 100000 in
theorem slices_Compare_int_int.calls (k : Nat) (A0 : Option Addr) (c0 : Nat) (l0 : List Int) (A1 : Option Addr) (c1 : Nat) (l1 : List Int) (r : Int) (w : World) (dy : Kd.C (Kd.int .i64) w A0 l0.length l0) (dz : l0.length ≤ c0) (fJ : Kd.C (Kd.int .i64) w A1 l1.length l1) (fK : l1.length ≤ c1) (h : slices_Compare_int_int.f k l0 l1 = some r) :
 Calls Tryz.prog 53 #[.slice A0 l0.length c0, .slice A1 l1.length c1] w fun e w' => e = .returned (.int .i64 r) ∧ Drawn0 w w' := by
 have dq := zA dy; have hZ := zA dz; clear dy dz; have fV := zA fJ; have lb := zA fK; clear fJ fK; have H : (slices_Compare_int_int.l0 k l0 l1 l0 (l0.length : Int) 0) = some r := h; clear h; have H' := zA H; clear H; go_enter Tryz.func53, Tryz.ntmps53; go_wp2; go_loopg [11] k (fun kq jv w' => ∃ (aE : Int), jv = .int .i64 aE ∧ Aside0 (slices_Compare_int_int.l0 kq l0 l1 l0 (l0.length : Int) aE = some r) ∧ Aside0 (kq ≤ k) ∧ Drawn0 w w')
 case atStart => exact ⟨(0), zz0y, H', ⟨Nat.le_refl _⟩, zz0w⟩
 case round =>
  clear H'; (try clear c1); (try clear p2); obtain ⟨aE, rfl, HA, bJ, ⟨m1, rfl⟩⟩ := hrel; cases gk with
  | zero => exact absurd HA.out (by simp [slices_Compare_int_int.l0])
  | succ k1 =>
   have H := HA.out; clear HA; simp only [slices_Compare_int_int.l0] at H; by_cases c3 : aE < (l0.length : Int)
   · rw [if_pos c3] at H; have cM := decide_eq_true c3; clear c3; replace H := zIn H; obtain ⟨c4, H⟩ := H; have dr : decide (0 ≤ aE) = true := decide_eq_true c4; clear c4; replace H := zIn H; obtain ⟨c5, H⟩ := H; have ff : decide (aE < (l0.length : Int)) = true := decide_eq_true c5; clear c5; by_cases c6 : aE ≥ (l1.length : Int)
     · rw [if_pos c6] at H; have dt : decide ((l1.length : Int) ≤ aE) = true := decide_eq_true c6; clear c6; obtain rfl := Option.some.inj H; have aN : 0 ≤ (aE : Int) := of_decide_eq_true zz1b; have aQ : aE < (l0.length : Int) := of_decide_eq_true zz1b; obtain ⟨bm, bH, be⟩ := Kd.at_int dq.out aE aN aQ; cases bH; replace aN := eq_true aN; replace aQ := eq_true aQ; go_wp2; go_ret; exact ⟨zz0y, zz0w⟩
     · rw [if_neg c6] at H; have dt : decide ((l1.length : Int) ≤ aE) = false := decide_eq_false c6; clear c6; replace H := zIn H; obtain ⟨c7, H⟩ := H; have dA : decide (aE < (l1.length : Int)) = true := decide_eq_true c7; clear c7; replace H := Option.bind_eq_some_iff.mp H; obtain ⟨b7, jZ, H⟩ := H; have A8 := zA jZ; clear jZ; by_cases c9 : b7 = 0
       · rw [if_pos c9] at H; have eN : (b7 == 0) = true := beq_iff_eq.mpr c9; have pw : (b7 != 0) = false := bne_eq_false_iff_eq.mpr c9; clear c9; have H' := zA H; clear H; have aN : 0 ≤ (aE : Int) := of_decide_eq_true zz1b; have aQ : aE < (l0.length : Int) := of_decide_eq_true zz1b; obtain ⟨bm, bH, be⟩ := Kd.at_int dq.out aE aN aQ; cases bH; replace aN := eq_true aN; replace aQ := eq_true aQ; have bS : 0 ≤ (aE : Int) := of_decide_eq_true zz1b; have bT : aE < (l1.length : Int) := of_decide_eq_true zz1b; obtain ⟨dB, dj, b5⟩ := Kd.at_int fV.out aE bS bT; cases dj; replace bS := eq_true bS; replace bT := eq_true bT; go_wp2_with (first | ((with_reducible refine gate_callee (f := 72) rfl ?_); refine goesL_ (some 26) rfl rfl Tryz.func72 zz1c rfl #[.int .i64 (rd l0 aE), .int .i64 (rd l1 aE)] rfl zz0d ?_; (with_reducible refine (cmp_Compare_int.calls (rd l0 aE) (rd l1 aE) b7 _ A8.out).mono ?_); rintro e w' ⟨rfl, ⟨nd, rfl⟩⟩; refine ⟨_, rfl, ?_⟩))
         go_roundg k1
         case measure => have := bJ.out; omega
         case rel => exact ⟨(wrap64 (aE + 1)), zz0y, H', ⟨zz18 bJ⟩, zz0w⟩
       · rw [if_neg c9] at H; have eN : (b7 == 0) = false := beq_eq_false_iff_ne.mpr c9; have pw : (b7 != 0) = true := bne_iff_ne.mpr c9; obtain rfl := Option.some.inj H; have aN : 0 ≤ (aE : Int) := of_decide_eq_true zz1b; have aQ : aE < (l0.length : Int) := of_decide_eq_true zz1b; obtain ⟨bm, bH, be⟩ := Kd.at_int dq.out aE aN aQ; cases bH; replace aN := eq_true aN; replace aQ := eq_true aQ; have bS : 0 ≤ (aE : Int) := of_decide_eq_true zz1b; have bT : aE < (l1.length : Int) := of_decide_eq_true zz1b; obtain ⟨dB, dj, b5⟩ := Kd.at_int fV.out aE bS bT; cases dj; replace bS := eq_true bS; replace bT := eq_true bT; go_wp2_with (first | ((with_reducible refine gate_callee (f := 72) rfl ?_); refine goesL_ (some 26) rfl rfl Tryz.func72 zz1c rfl #[.int .i64 (rd l0 aE), .int .i64 (rd l1 aE)] rfl zz0d ?_; (with_reducible refine (cmp_Compare_int.calls (rd l0 aE) (rd l1 aE) b7 _ A8.out).mono ?_); rintro e w' ⟨rfl, ⟨nd, rfl⟩⟩; refine ⟨_, rfl, ?_⟩)); go_ret; exact ⟨zz0y, zz0w⟩
   · rw [if_neg c3] at H; have cM := decide_eq_false c3; clear c3; by_cases eh : (l0.length : Int) < (l1.length : Int)
     · rw [if_pos eh] at H; have eQ := decide_eq_true eh; have kc : decide (l0.length < l1.length) = true := decide_eq_true (Int.ofNat_lt.mp eh); clear eh; obtain rfl := Option.some.inj H; go_wp2; go_ret; exact ⟨zz0y, zz0w⟩
     · rw [if_neg eh] at H; have eQ := decide_eq_false eh; have kc : decide (l0.length < l1.length) = false := decide_eq_false (fun h => eh (Int.ofNat_lt.mpr h)); clear eh; obtain rfl := Option.some.inj H; go_wp2; go_ret; exact ⟨zz0y, zz0w⟩
def impl_areRising.l0 : Nat → List Int → Int → List Int → Int → Int → Option (Bool)
 | 0, _, _, _, _, _ => none
 | k + 1, x0, x1, x7, x8, x9 => if x9 < x8 then (if 0 ≤ x9 then (if x9 < (x7.length : Int) then ((impl_in.f (rd x7 x9) 0 (wrap64 (x1 - 1))).bind fun aH => (if aH = true then (if x9 > 0 then (if 0 ≤ (wrap64 (x9 - 1)) then (if (wrap64 (x9 - 1)) < (x0.length : Int) then (if (rd x0 (wrap64 (x9 - 1))) ≥ (rd x7 x9) then (some false) else (impl_areRising.l0 k x0 x1 x7 x8 (wrap64 (x9 + 1)))) else (none)) else (none)) else (impl_areRising.l0 k x0 x1 x7 x8 (wrap64 (x9 + 1)))) else (some false))) else (none)) else (none)) else (some true)
def impl_areRising.f (k : Nat) (l0 : List Int) (a1 : Int) : Option (Bool) := impl_areRising.l0 k l0 a1 l0 (l0.length : Int) 0
set_option maxHeartbeats 8000000 in
set_option maxRecDepth 100000 in
theorem impl_areRising.calls (k : Nat) (A0 : Option Addr) (c0 : Nat) (l0 : List Int) (a1 : Int) (r : Bool) (w : World) (dy : Kd.C (Kd.int .i64) w A0 l0.length l0) (dz : l0.length ≤ c0) (h : impl_areRising.f k l0 a1 = some r) :
 Calls Tryz.prog 49 #[.slice A0 l0.length c0, .int .i64 a1] w fun e w' => e = .returned (.bool r) ∧ Drawn0 w w' := by
 have dq := zA dy; have hZ := zA dz; clear dy dz; have H : (impl_areRising.l0 k l0 a1 l0 (l0.length : Int) 0) = some r := h; clear h; have H' := zA H; clear H; go_enter Tryz.func49, Tryz.ntmps49; go_wp2; go_loopg [9] k (fun kq v9 w' => ∃ (b6 : Int), v9 = .int .i64 b6 ∧ Aside0 (impl_areRising.l0 kq l0 a1 l0 (l0.length : Int) b6 = some r) ∧ Aside0 (kq ≤ k) ∧ Drawn0 w w')
 case atStart => exact ⟨(0), zz0y, H', ⟨Nat.le_refl _⟩, zz0w⟩
 case round =>
  clear H'; (try clear p2); obtain ⟨b6, rfl, HA, bJ, ⟨m1, rfl⟩⟩ := hrel; cases gk with
  | zero => exact absurd HA.out (by simp [impl_areRising.l0])
  | succ k1 =>
   have H := HA.out; clear HA; simp only [impl_areRising.l0] at H; by_cases c3 : b6 < (l0.length : Int)
   · rw [if_pos c3] at H; have cM := decide_eq_true c3; clear c3; replace H := zIn H; obtain ⟨c4, H⟩ := H; have dr : decide (0 ≤ b6) = true := decide_eq_true c4; clear c4; replace H := zIn H; obtain ⟨c5, H⟩ := H; have ff : decide (b6 < (l0.length : Int)) = true := decide_eq_true c5; clear c5; replace H := Option.bind_eq_some_iff.mp H; obtain ⟨aH, gx, H⟩ := H; have A6 := zA gx; clear gx; by_cases c7 : aH = true
     · subst c7; rw [if_pos rfl] at H; by_cases c8 : b6 > 0
       · rw [if_pos c8] at H; have dY : decide (0 < b6) = true := decide_eq_true c8; clear c8; obtain ⟨ji9, hji9⟩ : ∃ j_ : Int, (wrap64 (b6 - 1)) = j_ := ⟨_, rfl⟩
         replace H : (if 0 ≤ (ji9) then (if (ji9) < (l0.length : Int) then (if (rd l0 (ji9)) ≥ (rd l0 b6) then (some false) else (impl_areRising.l0 k1 l0 a1 l0 (l0.length : Int) (wrap64 (b6 + 1)))) else (none)) else (none)) = some r := by first | (rw [hji9] at H; exact H) | (simp only [hji9] at H ⊢; exact H)
         (try rw [hji9] at A6); have hji9w : (IntKind.i64.wrap (b6 - 1)) = ji9 := (i64_w _).trans hji9; replace H := zIn H; obtain ⟨eh, H⟩ := H; have eQ : decide (0 ≤ (ji9)) = true := decide_eq_true eh; clear eh; replace H := zIn H; obtain ⟨eF, H⟩ := H; have gz : decide ((ji9) < (l0.length : Int)) = true := decide_eq_true eF; clear eF; by_cases eV : (rd l0 (ji9)) ≥ (rd l0 b6)
         · rw [if_pos eV] at H; have he : decide ((rd l0 b6) ≤ (rd l0 (ji9))) = true := decide_eq_true eV; clear eV; obtain rfl := Option.some.inj H; have aN : 0 ≤ (b6 : Int) := of_decide_eq_true zz1b; have aQ : b6 < (l0.length : Int) := of_decide_eq_true zz1b; obtain ⟨bm, bH, be⟩ := Kd.at_int dq.out b6 aN aQ; cases bH; replace aN := eq_true aN; replace aQ := eq_true aQ; go_wp2_with (first | ((with_reducible refine gate_callee (f := 48) rfl ?_); refine goesL_ (some 17) rfl rfl Tryz.func48 zz1c rfl #[.int .i64 (rd l0 b6), .int .i64 0, .int .i64 (wrap64 (a1 - 1))] rfl zz0d ?_; (with_reducible refine (impl_in.calls (rd l0 b6) 0 (wrap64 (a1 - 1)) true _ A6.out).mono ?_); rintro e w' ⟨rfl, ⟨nd, rfl⟩⟩; refine ⟨_, rfl, ?_⟩; have cc : 0 ≤ ((ji9) : Int) := of_decide_eq_true zz1b; have cd : (ji9) < (l0.length : Int) := of_decide_eq_true zz1b; obtain ⟨di, dS, a9⟩ := Kd.at_int dq.out (ji9) cc cd; obtain rfl : bm = di := (by injection dS); replace cc := eq_true cc; replace cd := eq_true cd)); go_ret; exact ⟨by first | rfl | (simp; done) | (simp only [← hji9] <;> (first | rfl | simp)) | (simp [*]; done), zz0w⟩
         · rw [if_neg eV] at H; have he : decide ((rd l0 b6) ≤ (rd l0 (ji9))) = false := decide_eq_false eV; clear eV; have H' := zA H; clear H; have aN : 0 ≤ (b6 : Int) := of_decide_eq_true zz1b; have aQ : b6 < (l0.length : Int) := of_decide_eq_true zz1b; obtain ⟨bm, bH, be⟩ := Kd.at_int dq.out b6 aN aQ; cases bH; replace aN := eq_true aN; replace aQ := eq_true aQ; go_wp2_with (first | ((with_reducible refine gate_callee (f := 48) rfl ?_); refine goesL_ (some 17) rfl rfl Tryz.func48 zz1c rfl #[.int .i64 (rd l0 b6), .int .i64 0, .int .i64 (wrap64 (a1 - 1))] rfl zz0d ?_; (with_reducible refine (impl_in.calls (rd l0 b6) 0 (wrap64 (a1 - 1)) true _ A6.out).mono ?_); rintro e w' ⟨rfl, ⟨nd, rfl⟩⟩; refine ⟨_, rfl, ?_⟩; have cc : 0 ≤ ((ji9) : Int) := of_decide_eq_true zz1b; have cd : (ji9) < (l0.length : Int) := of_decide_eq_true zz1b; obtain ⟨di, dS, a9⟩ := Kd.at_int dq.out (ji9) cc cd; obtain rfl : bm = di := (by injection dS); replace cc := eq_true cc; replace cd := eq_true cd))
           go_roundg k1
           case measure => have := bJ.out; omega
           case rel => exact ⟨(wrap64 (b6 + 1)), zz0y, H', ⟨zz18 bJ⟩, zz0w⟩
       · rw [if_neg c8] at H; have dY : decide (0 < b6) = false := decide_eq_false c8; clear c8; have H' := zA H; clear H; have aN : 0 ≤ (b6 : Int) := of_decide_eq_true zz1b; have aQ : b6 < (l0.length : Int) := of_decide_eq_true zz1b; obtain ⟨bm, bH, be⟩ := Kd.at_int dq.out b6 aN aQ; cases bH; replace aN := eq_true aN; replace aQ := eq_true aQ; go_wp2_with (first | ((with_reducible refine gate_callee (f := 48) rfl ?_); refine goesL_ (some 17) rfl rfl Tryz.func48 zz1c rfl #[.int .i64 (rd l0 b6), .int .i64 0, .int .i64 (wrap64 (a1 - 1))] rfl zz0d ?_; (with_reducible refine (impl_in.calls (rd l0 b6) 0 (wrap64 (a1 - 1)) true _ A6.out).mono ?_); rintro e w' ⟨rfl, ⟨nd, rfl⟩⟩; refine ⟨_, rfl, ?_⟩))
         go_roundg k1
         case measure => have := bJ.out; omega
         case rel => exact ⟨(wrap64 (b6 + 1)), zz0y, H', ⟨zz18 bJ⟩, zz0w⟩
     · replace c7 := Bool.eq_false_iff.mpr c7; subst c7; rw [if_neg zFt] at H; obtain rfl := Option.some.inj H; have aN : 0 ≤ (b6 : Int) := of_decide_eq_true zz1b; have aQ : b6 < (l0.length : Int) := of_decide_eq_true zz1b; obtain ⟨bm, bH, be⟩ := Kd.at_int dq.out b6 aN aQ; cases bH; replace aN := eq_true aN; replace aQ := eq_true aQ; go_wp2_with (first | ((with_reducible refine gate_callee (f := 48) rfl ?_); refine goesL_ (some 17) rfl rfl Tryz.func48 zz1c rfl #[.int .i64 (rd l0 b6), .int .i64 0, .int .i64 (wrap64 (a1 - 1))] rfl zz0d ?_; (with_reducible refine (impl_in.calls (rd l0 b6) 0 (wrap64 (a1 - 1)) false _ A6.out).mono ?_); rintro e w' ⟨rfl, ⟨nd, rfl⟩⟩; refine ⟨_, rfl, ?_⟩)); go_ret; exact ⟨zz0y, zz0w⟩
   · rw [if_neg c3] at H; have cM := decide_eq_false c3; clear c3; obtain rfl := Option.some.inj H; go_wp2; go_ret; exact ⟨zz0y, zz0w⟩
def spec_l1In.f (a0 : Int) (a1 : Int) (a2 : Int) : Option (Bool) := if a0 ≥ a1 then (some (decide (a0 ≤ a2))) else (some false)
set_option maxHeartbeats 8000000 in
set_option maxRecDepth 100000 in
theorem spec_l1In.calls (a0 : Int) (a1 : Int) (a2 : Int) (r : Bool) (w : World) (h : spec_l1In.f a0 a1 a2 = some r) :
 Calls Tryz.prog 41 #[.int .i64 a0, .int .i64 a1, .int .i64 a2] w fun e w' => e = .returned (.bool r) ∧ Drawn0 w w' := by
 have H : (if a0 ≥ a1 then (some (decide (a0 ≤ a2))) else (some false)) = some r := h; clear h; by_cases c4 : a0 ≥ a1
 · rw [if_pos c4] at H; have dr : decide (a1 ≤ a0) = true := decide_eq_true c4; clear c4; obtain rfl := Option.some.inj H; go_enter Tryz.func41, Tryz.ntmps41; go_wp2; go_ret; exact ⟨zz0y, zz0w⟩
 · rw [if_neg c4] at H; have dr : decide (a1 ≤ a0) = false := decide_eq_false c4; clear c4; obtain rfl := Option.some.inj H; go_enter Tryz.func41, Tryz.ntmps41; go_wp2; go_ret; exact ⟨zz0y, zz0w⟩
def spec_l1Rising.l0 : Nat → List Int → Int → Int → List Int → Int → Int → Option (Bool)
 | 0, _, _, _, _, _, _ => none
 | k + 1, x0, x1, x2, x9, lc, ek => if ek < lc then (if 0 ≤ ek then (if ek < (x9.length : Int) then ((spec_l1In.f (rd x9 ek) x1 x2).bind fun aH => (if aH = true then (if ek > 0 then (if 0 ≤ (wrap64 (ek - 1)) then (if (wrap64 (ek - 1)) < (x0.length : Int) then (if (rd x0 (wrap64 (ek - 1))) ≥ (rd x9 ek) then (some false) else (spec_l1Rising.l0 k x0 x1 x2 x9 lc (wrap64 (ek + 1)))) else (none)) else (none)) else (spec_l1Rising.l0 k x0 x1 x2 x9 lc (wrap64 (ek + 1)))) else (some false))) else (none)) else (none)) else (some true)
def spec_l1Rising.f (k : Nat) (l0 : List Int) (a1 : Int) (a2 : Int) : Option (Bool) := spec_l1Rising.l0 k l0 a1 a2 l0 (l0.length : Int) 0
set_option maxHeartbeats 8000000 in
set_option maxRecDepth 100000 in
theorem spec_l1Rising.calls (k : Nat) (A0 : Option Addr) (c0 : Nat) (l0 : List Int) (a1 : Int) (a2 : Int) (r : Bool) (w : World) (dy : Kd.C (Kd.int .i64) w A0 l0.length l0) (dz : l0.length ≤ c0) (h : spec_l1Rising.f k l0 a1 a2 = some r) :
 Calls Tryz.prog 42 #[.slice A0 l0.length c0, .int .i64 a1, .int .i64 a2] w fun e w' => e = .returned (.bool r) ∧ Drawn0 w w' := by
 have dq := zA dy; have hZ := zA dz; clear dy dz; have H : (spec_l1Rising.l0 k l0 a1 a2 l0 (l0.length : Int) 0) = some r := h; clear h; have H' := zA H; clear H; go_enter Tryz.func42, Tryz.ntmps42; go_wp2; go_loopg [11] k (fun kq jv w' => ∃ (aE : Int), jv = .int .i64 aE ∧ Aside0 (spec_l1Rising.l0 kq l0 a1 a2 l0 (l0.length : Int) aE = some r) ∧ Aside0 (kq ≤ k) ∧ Drawn0 w w')
 case atStart => exact ⟨(0), zz0y, H', ⟨Nat.le_refl _⟩, zz0w⟩
 case round =>
  clear H'; (try clear p2); obtain ⟨aE, rfl, HA, bJ, ⟨m1, rfl⟩⟩ := hrel; cases gk with
  | zero => exact absurd HA.out (by simp [spec_l1Rising.l0])
  | succ k1 =>
   have H := HA.out; clear HA; simp only [spec_l1Rising.l0] at H; by_cases c4 : aE < (l0.length : Int)
   · rw [if_pos c4] at H; have dr := decide_eq_true c4; clear c4; replace H := zIn H; obtain ⟨c5, H⟩ := H; have ff : decide (0 ≤ aE) = true := decide_eq_true c5; clear c5; replace H := zIn H; obtain ⟨c6, H⟩ := H; have dt : decide (aE < (l0.length : Int)) = true := decide_eq_true c6; clear c6; replace H := Option.bind_eq_some_iff.mp H; obtain ⟨aH, lg, H⟩ := H; have A7 := zA lg; clear lg; by_cases c8 : aH = true
     · subst c8; rw [if_pos rfl] at H; by_cases c9 : aE > 0
       · rw [if_pos c9] at H; have eN : decide (0 < aE) = true := decide_eq_true c9; clear c9; obtain ⟨ji10, hji10⟩ : ∃ j_ : Int, (wrap64 (aE - 1)) = j_ := ⟨_, rfl⟩
         replace H : (if 0 ≤ (ji10) then (if (ji10) < (l0.length : Int) then (if (rd l0 (ji10)) ≥ (rd l0 aE) then (some false) else (spec_l1Rising.l0 k1 l0 a1 a2 l0 (l0.length : Int) (wrap64 (aE + 1)))) else (none)) else (none)) = some r := by first | (rw [hji10] at H; exact H) | (simp only [hji10] at H ⊢; exact H)
         (try rw [hji10] at A7); have hji10w : (IntKind.i64.wrap (aE - 1)) = ji10 := (i64_w _).trans hji10; replace H := zIn H; obtain ⟨eF, H⟩ := H; have gz : decide (0 ≤ (ji10)) = true := decide_eq_true eF; clear eF; replace H := zIn H; obtain ⟨eV, H⟩ := H; have he : decide ((ji10) < (l0.length : Int)) = true := decide_eq_true eV; clear eV; by_cases gm : (rd l0 (ji10)) ≥ (rd l0 aE)
         · rw [if_pos gm] at H; have kd : decide ((rd l0 aE) ≤ (rd l0 (ji10))) = true := decide_eq_true gm; clear gm; obtain rfl := Option.some.inj H; have aN : 0 ≤ (aE : Int) := of_decide_eq_true zz1b; have aQ : aE < (l0.length : Int) := of_decide_eq_true zz1b; obtain ⟨bm, bH, be⟩ := Kd.at_int dq.out aE aN aQ; cases bH; replace aN := eq_true aN; replace aQ := eq_true aQ; go_wp2_with (first | ((with_reducible refine gate_callee (f := 41) rfl ?_); refine goesL_ (some 19) rfl rfl Tryz.func41 zz1c rfl #[.int .i64 (rd l0 aE), .int .i64 a1, .int .i64 a2] rfl zz0d ?_; (with_reducible refine (spec_l1In.calls (rd l0 aE) a1 a2 true _ A7.out).mono ?_); rintro e w' ⟨rfl, ⟨nd, rfl⟩⟩; refine ⟨_, rfl, ?_⟩; have cc : 0 ≤ ((ji10) : Int) := of_decide_eq_true zz1b; have cd : (ji10) < (l0.length : Int) := of_decide_eq_true zz1b; obtain ⟨di, dS, a9⟩ := Kd.at_int dq.out (ji10) cc cd; obtain rfl : bm = di := (by injection dS); replace cc := eq_true cc; replace cd := eq_true cd)); go_ret; exact ⟨by first | rfl | (simp; done) | (simp only [← hji10] <;> (first | rfl | simp)) | (simp [*]; done), zz0w⟩
         · rw [if_neg gm] at H; have kd : decide ((rd l0 aE) ≤ (rd l0 (ji10))) = false := decide_eq_false gm; clear gm; have H' := zA H; clear H; have aN : 0 ≤ (aE : Int) := of_decide_eq_true zz1b; have aQ : aE < (l0.length : Int) := of_decide_eq_true zz1b; obtain ⟨bm, bH, be⟩ := Kd.at_int dq.out aE aN aQ; cases bH; replace aN := eq_true aN; replace aQ := eq_true aQ; go_wp2_with (first | ((with_reducible refine gate_callee (f := 41) rfl ?_); refine goesL_ (some 19) rfl rfl Tryz.func41 zz1c rfl #[.int .i64 (rd l0 aE), .int .i64 a1, .int .i64 a2] rfl zz0d ?_; (with_reducible refine (spec_l1In.calls (rd l0 aE) a1 a2 true _ A7.out).mono ?_); rintro e w' ⟨rfl, ⟨nd, rfl⟩⟩; refine ⟨_, rfl, ?_⟩; have cc : 0 ≤ ((ji10) : Int) := of_decide_eq_true zz1b; have cd : (ji10) < (l0.length : Int) := of_decide_eq_true zz1b; obtain ⟨di, dS, a9⟩ := Kd.at_int dq.out (ji10) cc cd; obtain rfl : bm = di := (by injection dS); replace cc := eq_true cc; replace cd := eq_true cd))
           go_roundg k1
           case measure => have := bJ.out; omega
           case rel => exact ⟨(wrap64 (aE + 1)), zz0y, H', ⟨zz18 bJ⟩, zz0w⟩
       · rw [if_neg c9] at H; have eN : decide (0 < aE) = false := decide_eq_false c9; clear c9; have H' := zA H; clear H; have aN : 0 ≤ (aE : Int) := of_decide_eq_true zz1b; have aQ : aE < (l0.length : Int) := of_decide_eq_true zz1b; obtain ⟨bm, bH, be⟩ := Kd.at_int dq.out aE aN aQ; cases bH; replace aN := eq_true aN; replace aQ := eq_true aQ; go_wp2_with (first | ((with_reducible refine gate_callee (f := 41) rfl ?_); refine goesL_ (some 19) rfl rfl Tryz.func41 zz1c rfl #[.int .i64 (rd l0 aE), .int .i64 a1, .int .i64 a2] rfl zz0d ?_; (with_reducible refine (spec_l1In.calls (rd l0 aE) a1 a2 true _ A7.out).mono ?_); rintro e w' ⟨rfl, ⟨nd, rfl⟩⟩; refine ⟨_, rfl, ?_⟩))
         go_roundg k1
         case measure => have := bJ.out; omega
         case rel => exact ⟨(wrap64 (aE + 1)), zz0y, H', ⟨zz18 bJ⟩, zz0w⟩
     · replace c8 := Bool.eq_false_iff.mpr c8; subst c8; rw [if_neg zFt] at H; obtain rfl := Option.some.inj H; have aN : 0 ≤ (aE : Int) := of_decide_eq_true zz1b; have aQ : aE < (l0.length : Int) := of_decide_eq_true zz1b; obtain ⟨bm, bH, be⟩ := Kd.at_int dq.out aE aN aQ; cases bH; replace aN := eq_true aN; replace aQ := eq_true aQ; go_wp2_with (first | ((with_reducible refine gate_callee (f := 41) rfl ?_); refine goesL_ (some 19) rfl rfl Tryz.func41 zz1c rfl #[.int .i64 (rd l0 aE), .int .i64 a1, .int .i64 a2] rfl zz0d ?_; (with_reducible refine (spec_l1In.calls (rd l0 aE) a1 a2 false _ A7.out).mono ?_); rintro e w' ⟨rfl, ⟨nd, rfl⟩⟩; refine ⟨_, rfl, ?_⟩)); go_ret; exact ⟨zz0y, zz0w⟩
   · rw [if_neg c4] at H; have dr := decide_eq_false c4; clear c4; obtain rfl := Option.some.inj H; go_wp2; go_ret; exact ⟨zz0y, zz0w⟩
end Go.Proofs.YtkocahlifffgjaaGreat.P
namespace Go.Proofs.YtkocahlifffgjaaGreat.P
open Go.RowKit Go.Proofs.YtkocahlifffgjaaGreatW.PrintWords
set_option linter.unusedVariables false
set_option linter.unusedSimpArgs false
def cmpL : List Int → List Int → Int
 | [], [] => 0
 | [], _ :: _ => -1
 | _ :: _, [] => 1
 | a :: l, b :: m => if a < b then -1 else if b < a then 1 else cmpL l m
theorem cmpInt_eq (a b : Int) : cmp_Compare_int.f a b = some (if a < b then -1 else if b < a then 1 else 0) := by
 unfold cmp_Compare_int.f cmp_isNaN_int.f; simp only [Option.bind_some, bne_self_eq_false, Bool.false_eq_true, if_false]; by_cases h1 : a < b
 · simp [h1]
 · by_cases h2 : b < a
   · simp [h1, h2]
   · simp [h1, h2]
theorem compare_loop (a b : List Int) (hb : a.length ≤ 9223372036854775807) (d : Nat) : ∀ (k i : Nat), i ≤ a.length → i ≤ b.length → a.length - i = d → d < k →
 slices_Compare_int_int.l0 k a b a a.length i = some (cmpL (a.drop i) (b.drop i)) := by
 induction d with
 | zero =>
  intro k i h1 h2 hd hk; obtain ⟨k, rfl⟩ : ∃ m, k = m + 1 := ⟨k - 1, zz1g⟩
  simp only [slices_Compare_int_int.l0]; rw [if_neg zz1g, List.drop_of_length_le (show a.length ≤ i by omega)]; by_cases hl : a.length < b.length
  · rw [if_pos zz1g, getD_drop b i 0 zz1g]; rfl
  · rw [if_neg zz1g, List.drop_of_length_le (show b.length ≤ i by omega)]; rfl
 | succ d ih =>
  intro k i h1 h2 hd hk; obtain ⟨k, rfl⟩ : ∃ m, k = m + 1 := ⟨k - 1, zz1g⟩
  simp only [slices_Compare_int_int.l0]; rw [if_pos zz1g, if_pos zz1g, if_pos zz1g]; have ea : a.drop i = rd a i :: a.drop (i + 1) := getD_drop a i 0 zz1g; by_cases hl : i < b.length
  · have eb : b.drop i = rd b i :: b.drop (i + 1) := getD_drop b i 0 zz1g; rw [if_neg zz1g, if_pos zz1g, cmpInt_eq, ea, eb]; simp only [Option.bind_some, cmpL]; by_cases h3 : rd a i < rd b i
    · rw [if_pos h3, if_pos h3, if_neg zz1f]
    · by_cases h4 : rd b i < rd a i
      · rw [if_neg h3, if_pos h4, if_neg h3, if_pos h4, if_neg zz1f]
      · rw [if_neg h3, if_neg h4, if_neg h3, if_neg h4, if_pos rfl, show wrap64 ((i : Int) + 1) = ((i + 1 : Nat) : Int) by unfold wrap64; omega]; exact ih k (i + 1) zz1g zz1g zz1g zz1g
  · rw [if_pos zz1g, ea, List.drop_of_length_le (show b.length ≤ i by omega)]; rfl
theorem compare_eq (a b : List Int) (hb : a.length ≤ 9223372036854775807) (k : Nat) (hk : a.length < k) : slices_Compare_int_int.f k a b = some (cmpL a b) := by
 unfold slices_Compare_int_int.f; have := compare_loop a b hb a.length k 0 zz1g zz1g zz1g hk; simpa using this
def riseF (lo hi : Int) : Option Int → List Int → Bool
 | _, [] => true
 | p, x :: l => decide (lo ≤ x ∧ x ≤ hi) && ((match p with | none => true | some y => decide (y < x)) && riseF lo hi (some x) l)
def prevI (l : List Int) : Nat → Option Int
 | 0 => none
 | i + 1 => some (rd l i)
theorem areRising_loop (l : List Int) (n : Int) (hb : l.length ≤ 9223372036854775807) (d : Nat) : ∀ (k i : Nat), i ≤ l.length → l.length - i = d → d < k →
 impl_areRising.l0 k l n l l.length i = some (riseF 0 (wrap64 (n - 1)) (prevI l i) (l.drop i)) := by
 induction d with
 | zero =>
  intro k i h1 hd hk; obtain ⟨k, rfl⟩ : ∃ m, k = m + 1 := ⟨k - 1, zz1g⟩
  simp only [impl_areRising.l0]; rw [if_neg zz1g, List.drop_of_length_le (show l.length ≤ i by omega)]; cases i <;> rfl
 | succ d ih =>
  intro k i h1 hd hk; obtain ⟨k, rfl⟩ : ∃ m, k = m + 1 := ⟨k - 1, zz1g⟩
  have hi := ih k (i + 1) zz1g zz1g zz1g; simp only [impl_areRising.l0]; rw [if_pos zz1g, if_pos zz1g, if_pos zz1g, impl_in_eq, getD_drop l i 0 zz1g]; simp only [Option.bind_some]; have e0 : l.getD i 0 = rd l i := rfl; rw [e0]; have ew : wrap64 ((i : Int) + 1) = ((i + 1 : Nat) : Int) := by unfold wrap64; omega
  have er : ∀ p m, riseF 0 (wrap64 (n - 1)) p (rd l i :: m) = (decide (0 ≤ rd l i ∧ rd l i ≤ wrap64 (n - 1)) && ((match p with | none => true | some y => decide (y < rd l i)) && riseF 0 (wrap64 (n - 1)) (some (rd l i)) m)) := fun _ _ => rfl
  rw [er]; by_cases h : 0 ≤ rd l i ∧ rd l i ≤ wrap64 (n - 1)
  · rw [if_pos (decide_eq_true h), decide_eq_true h, Bool.true_and]; cases i with
    | zero => rw [if_neg zz1h, ew, hi]; rfl
    | succ i =>
     have e1 : wrap64 (((i + 1 : Nat) : Int) - 1) = (i : Int) := by unfold wrap64; omega
     rw [if_pos zz1g, e1, if_pos zz1g, if_pos zz1g]; show _ = some (decide (rd l i < rd l ((i + 1 : Nat) : Int)) && _); by_cases h2 : rd l i < rd l ((i + 1 : Nat) : Int)
     · rw [if_neg zz1g, ew, hi, decide_eq_true h2]; rfl
     · rw [if_pos zz1g, decide_eq_false h2]; rfl
  · rw [if_neg (by rw [decide_eq_false h]; exact Bool.false_ne_true), decide_eq_false h, Bool.false_and]
theorem areRising_eq (l : List Int) (n : Int) (hb : l.length ≤ 9223372036854775807) (k : Nat) (hk : l.length < k) : impl_areRising.f k l n = some (riseF 0 (wrap64 (n - 1)) none l) := by
 unfold impl_areRising.f; have := areRising_loop l n hb l.length k 0 zz1g zz1g hk; simpa [prevI] using this
def rowOk (nons toks many : Int) (x : List Int) : Bool := decide ((x.length : Int) = many) && (decide (0 ≤ rd x 0 ∧ rd x 0 ≤ wrap64 (nons - 1)) && !((x.drop 1).any fun y => !symB nons toks y))
def listsF (nons toks many : Int) : Option (List Int) → List (List Int) → Bool
 | _, [] => true
 | p, x :: l => rowOk nons toks many x && ((match p with | none => true | some y => decide (cmpL y x < 0)) && listsF nons toks many (some x) l)
def prevL (l : List (List Int)) : Nat → Option (List Int)
 | 0 => none
 | i + 1 => some (l.getD i [])
def goodB (nons toks : Int) (ps os : List (List Int)) (es : List Int) (fs : List (List Int)) : Bool :=
 decide (1 ≤ nons ∧ nons ≤ 40) && (decide (1 ≤ toks ∧ toks ≤ 4) && (riseF 0 (wrap64 (nons - 1)) none es && (decide ((fs.length : Int) ≤ nons) && (!(fs.any fun f => (f.length : Int) != 2) && (listsF nons toks 3 none ps && listsF nons toks 2 none os)))))
theorem rise_ext {α : Type} (lt : α → α → Prop) (irr : ∀ x, ¬ lt x x) (tr : ∀ x y z, lt x y → lt y z → lt x z) : ∀ {a b : List α}, a.Pairwise lt → b.Pairwise lt → (∀ x, x ∈ a ↔ x ∈ b) → a = b
 | [], [], _, _, _ => rfl
 | [], y :: b, _, _, h => absurd ((h y).2 List.mem_cons_self) zz1h
 | x :: a, [], _, _, h => absurd ((h x).1 List.mem_cons_self) zz1h
 | x :: a, y :: b, ha, hb, h => by
  obtain ⟨ha1, ha2⟩ := List.pairwise_cons.1 ha; obtain ⟨hb1, hb2⟩ := List.pairwise_cons.1 hb; have e : x = y := by
   rcases List.mem_cons.1 ((h x).1 List.mem_cons_self) with h1 | h1
   · exact h1
   · rcases List.mem_cons.1 ((h y).2 List.mem_cons_self) with h2 | h2
     · exact h2.symm
     · exact absurd (tr _ _ _ (ha1 y h2) (hb1 x h1)) (irr x)
  subst e; rw [rise_ext lt irr tr ha2 hb2 fun z => ⟨fun hz => ?_, fun hz => ?_⟩]
  · rcases List.mem_cons.1 ((h z).1 (List.mem_cons_of_mem _ hz)) with h1 | h1
    · subst h1; exact absurd (ha1 z hz) (irr z)
    · exact h1
  · rcases List.mem_cons.1 ((h z).2 (List.mem_cons_of_mem _ hz)) with h1 | h1
    · subst h1; exact absurd (hb1 z hz) (irr z)
    · exact h1
def UpI (l : List Int) : Prop := l.Pairwise (· < ·)
theorem upI_ext {a b : List Int} (ha : UpI a) (hb : UpI b) (h : ∀ x, x ∈ a ↔ x ∈ b) : a = b := rise_ext (· < ·) (fun x h => by omega) (fun x y z h1 h2 => by omega) ha hb h
def putI : List Int → Int → List Int
 | [], n => [n]
 | a :: l, n => if a < n then a :: putI l n else if a = n then a :: l else n :: a :: l
theorem mem_putI (l : List Int) (n x : Int) : x ∈ putI l n ↔ x = n ∨ x ∈ l := by
 induction l with
 | nil => simp [putI]
 | cons a l ih =>
  simp only [putI]; by_cases h1 : a < n
  · rw [if_pos h1, List.mem_cons, ih, List.mem_cons]; exact ⟨fun h => h.elim (fun h => .inr (.inl h)) (fun h => h.elim .inl (fun h => .inr (.inr h))), fun h => h.elim (fun h => .inr (.inl h)) (fun h => h.elim .inl (fun h => .inr (.inr h)))⟩
  · rw [if_neg h1]; by_cases h2 : a = n
    · rw [if_pos h2]; subst h2; exact ⟨.inr, fun h => h.elim (fun h => by subst h; exact List.mem_cons_self) id⟩
    · rw [if_neg h2, List.mem_cons]
theorem upI_put (l : List Int) (n : Int) (h : UpI l) : UpI (putI l n) := by
 induction l with
 | nil => exact List.pairwise_singleton _ _
 | cons a l ih =>
  obtain ⟨h1, h2⟩ := List.pairwise_cons.1 h; simp only [putI]; by_cases h3 : a < n
  · rw [if_pos h3]; refine List.pairwise_cons.2 ⟨fun x hx => ?_, ih h2⟩; rcases (mem_putI l n x).1 hx with h4 | h4
    · omega
    · exact h1 x h4
  · rw [if_neg h3]; by_cases h4 : a = n
    · rw [if_pos h4]; exact h
    · rw [if_neg h4]; refine List.pairwise_cons.2 ⟨fun x hx => ?_, h⟩; rcases List.mem_cons.1 hx with h5 | h5
      · omega
      · have := h1 x h5; omega
theorem putI_len (l : List Int) (n : Int) : (putI l n).length ≤ l.length + 1 := by
 induction l with
 | nil => simp [putI]
 | cons a l ih =>
  simp only [putI]
  split
  · simp; omega
  · split <;> simp
def sortI (l : List Int) : List Int := l.foldl putI []
theorem foldI_ok (l : List Int) : ∀ a, UpI a → UpI (l.foldl putI a) ∧ ∀ x, x ∈ l.foldl putI a ↔ x ∈ l ∨ x ∈ a := by
 induction l with
 | nil => intro a h; exact ⟨h, fun x => by simp⟩
 | cons b l ih =>
  intro a h; obtain ⟨h1, h2⟩ := ih (putI a b) (upI_put a b h); refine ⟨h1, fun x => (h2 x).trans ?_⟩; rw [mem_putI, List.mem_cons]; exact ⟨fun h => h.elim (fun h => .inl (.inr h)) (fun h => h.elim (fun h => .inl (.inl h)) .inr), fun h => h.elim (fun h => h.elim (fun h => .inr (.inl h)) .inl) (fun h => .inr (.inr h))⟩
theorem sortI_up (l) : UpI (sortI l) := (foldI_ok l [] List.Pairwise.nil).1
theorem mem_sortI (l x) : x ∈ sortI l ↔ x ∈ l := ((foldI_ok l [] List.Pairwise.nil).2 x).trans zz1h
theorem upI_of {a l : List Int} (ha : UpI a) (h : ∀ x, x ∈ a ↔ x ∈ l) : a = sortI l := upI_ext ha (sortI_up l) fun x => (h x).trans (mem_sortI l x).symm
theorem upI_len (l : List Int) : ∀ lo hi : Int, UpI l → (∀ x, x ∈ l → lo ≤ x ∧ x < hi) → lo ≤ hi → (l.length : Int) ≤ hi - lo := by
 induction l with
 | nil => intro lo hi _ _ h; simp; omega
 | cons a l ih =>
  intro lo hi h hb hle; obtain ⟨h1, h2⟩ := List.pairwise_cons.1 h; have ha := hb a List.mem_cons_self; have := ih (a + 1) hi h2 (fun x hx => ⟨by have := h1 x hx; omega, (hb x (List.mem_cons_of_mem _ hx)).2⟩) zz1g; simp only [List.length_cons]; omega
inductive UpR (ps : List (List Int)) (S : Int → Prop) : Int → Prop
 | base {x : Int} : S x → UpR ps S x
 | step {p : List Int} : p ∈ ps → UpR ps S (rd p 1) → UpR ps S (rd p 0)
theorem UpR.least {ps : List (List Int)} {S T : Int → Prop} (h : ∀ x, S x → T x) (hc : ∀ p, p ∈ ps → T (rd p 1) → T (rd p 0)) {x : Int} (hx : UpR ps S x) : T x := by
 induction hx with
 | base h1 => exact h _ h1
 | step h1 _ ih => exact hc _ h1 ih
theorem UpR.mono {ps : List (List Int)} {S T : Int → Prop} (h : ∀ x, S x → T x) {x : Int} (hx : UpR ps S x) : UpR ps T x := hx.least (fun x hx => .base (h x hx)) (fun p hp h => .step hp h)
theorem UpR.one {ps : List (List Int)} {S : Int → Prop} {x : Int} : UpR ps S x ↔ ∃ y, S y ∧ UpR ps (· = y) x :=
 ⟨fun h => h.least (T := fun x => ∃ y, S y ∧ UpR ps (· = y) x) (fun x hx => ⟨x, hx, .base rfl⟩) (fun p hp ⟨y, hy, h⟩ => ⟨y, hy, .step hp h⟩), fun ⟨y, hy, h⟩ => h.mono fun x hx => by rw [hx]; exact hy⟩
theorem cmpL_self : ∀ l, cmpL l l = 0
 | [] => rfl
 | a :: l => by simp only [cmpL]; rw [if_neg zz1g, if_neg zz1g]; exact cmpL_self l
theorem cmpL_eq : ∀ l m, cmpL l m = 0 → l = m
 | [], [], _ => rfl
 | [], _ :: _, h => absurd h (by simp [cmpL])
 | _ :: _, [], h => absurd h (by simp [cmpL])
 | a :: l, b :: m, h => by
  simp only [cmpL] at h; by_cases h1 : a < b
  · rw [if_pos h1] at h; exact absurd h zz1f
  · by_cases h2 : b < a
    · rw [if_neg h1, if_pos h2] at h; exact absurd h zz1f
    · rw [if_neg h1, if_neg h2] at h; rw [cmpL_eq l m h, show a = b by omega]
theorem cmpL_neg : ∀ l m, cmpL m l = - cmpL l m
 | [], [] => rfl
 | [], _ :: _ => rfl
 | _ :: _, [] => rfl
 | a :: l, b :: m => by
  simp only [cmpL]; by_cases h1 : a < b
  · rw [if_neg zz1g, if_pos h1, if_pos h1]; rfl
  · by_cases h2 : b < a
    · rw [if_pos h2, if_neg h1, if_pos h2]
    · rw [if_neg h2, if_neg h1, if_neg h1, if_neg h2, cmpL_neg l m]
theorem cmpL_trans : ∀ (a b c : List Int), cmpL a b < 0 → cmpL b c < 0 → cmpL a c < 0
 | [], [], _, h, _ => absurd h zz1f
 | [], _ :: _, [], _, h => absurd h (by simp [cmpL])
 | [], _ :: _, _ :: _, _, _ => by simp [cmpL]
 | _ :: _, [], _, h, _ => absurd h (by simp [cmpL])
 | _ :: _, _ :: _, [], _, h => absurd h (by simp [cmpL])
 | x :: a, y :: b, z :: c, h1, h2 => by
  simp only [cmpL] at h1 h2 ⊢; by_cases xy : x < y
  · by_cases zy : z < y
    · rw [if_neg zz1g, if_pos zy] at h2; exact absurd h2 zz1f
    · rw [if_pos (show x < z by omega)]; decide
  · by_cases yx : y < x
    · rw [if_neg xy, if_pos yx] at h1; exact absurd h1 zz1f
    · have e : x = y := by omega
      subst e; rw [if_neg xy, if_neg yx] at h1; by_cases xz : x < z
      · rw [if_pos xz]; decide
      · rw [if_neg xz] at h2 ⊢; by_cases zx : z < x
        · rw [if_pos zx] at h2; exact absurd h2 zz1f
        · rw [if_neg zx] at h2 ⊢; exact cmpL_trans a b c h1 h2
def UpL (l : List (List Int)) : Prop := l.Pairwise (fun a b => cmpL a b < 0)
theorem upL_ext {a b : List (List Int)} (ha : UpL a) (hb : UpL b) (h : ∀ x, x ∈ a ↔ x ∈ b) : a = b := rise_ext _ (fun x h => by rw [cmpL_self] at h; omega) (fun x y z h1 h2 => cmpL_trans x y z h1 h2) ha hb h
def putL : List (List Int) → List Int → List (List Int)
 | [], n => [n]
 | a :: l, n => if cmpL a n < 0 then a :: putL l n else if a = n then a :: l else n :: a :: l
theorem mem_putL (l : List (List Int)) (n x : List Int) : x ∈ putL l n ↔ x = n ∨ x ∈ l := by
 induction l with
 | nil => simp [putL]
 | cons a l ih =>
  simp only [putL]; by_cases h1 : cmpL a n < 0
  · rw [if_pos h1, List.mem_cons, ih, List.mem_cons]; exact ⟨fun h => h.elim (fun h => .inr (.inl h)) (fun h => h.elim .inl (fun h => .inr (.inr h))), fun h => h.elim (fun h => .inr (.inl h)) (fun h => h.elim .inl (fun h => .inr (.inr h)))⟩
  · rw [if_neg h1]; by_cases h2 : a = n
    · rw [if_pos h2]; subst h2; exact ⟨.inr, fun h => h.elim (fun h => by subst h; exact List.mem_cons_self) id⟩
    · rw [if_neg h2, List.mem_cons]
theorem cmpL_flip {a n : List Int} (h1 : ¬ cmpL a n < 0) (h2 : a ≠ n) : cmpL n a < 0 := by
 have h3 := cmpL_neg a n; have h4 : cmpL a n ≠ 0 := fun h => h2 (cmpL_eq a n h)
 omega
theorem upL_put (l : List (List Int)) (n : List Int) (h : UpL l) : UpL (putL l n) := by
 induction l with
 | nil => exact List.pairwise_singleton _ _
 | cons a l ih =>
  obtain ⟨h1, h2⟩ := List.pairwise_cons.1 h; simp only [putL]; by_cases h3 : cmpL a n < 0
  · rw [if_pos h3]; refine List.pairwise_cons.2 ⟨fun x hx => ?_, ih h2⟩; rcases (mem_putL l n x).1 hx with h4 | h4
    · rw [h4]; exact h3
    · exact h1 x h4
  · rw [if_neg h3]; by_cases h4 : a = n
    · rw [if_pos h4]; exact h
    · rw [if_neg h4]; have h6 := cmpL_flip h3 h4; refine List.pairwise_cons.2 ⟨fun x hx => ?_, h⟩; rcases List.mem_cons.1 hx with h5 | h5
      · rw [h5]; exact h6
      · exact cmpL_trans _ _ _ h6 (h1 x h5)
def sortL (l : List (List Int)) : List (List Int) := l.foldl putL []
theorem foldL_ok (l : List (List Int)) : ∀ a, UpL a → UpL (l.foldl putL a) ∧ ∀ x, x ∈ l.foldl putL a ↔ x ∈ l ∨ x ∈ a := by
 induction l with
 | nil => intro a h; exact ⟨h, fun x => by simp⟩
 | cons b l ih =>
  intro a h; obtain ⟨h1, h2⟩ := ih (putL a b) (upL_put a b h); refine ⟨h1, fun x => (h2 x).trans ?_⟩; rw [mem_putL, List.mem_cons]; exact ⟨fun h => h.elim (fun h => .inl (.inr h)) (fun h => h.elim (fun h => .inl (.inl h)) .inr), fun h => h.elim (fun h => h.elim (fun h => .inr (.inl h)) .inl) (fun h => .inr (.inr h))⟩
theorem sortL_up (l) : UpL (sortL l) := (foldL_ok l [] List.Pairwise.nil).1
theorem mem_sortL (l x) : x ∈ sortL l ↔ x ∈ l := ((foldL_ok l [] List.Pairwise.nil).2 x).trans zz1h
theorem upL_of {a l : List (List Int)} (ha : UpL a) (h : ∀ x, x ∈ a ↔ x ∈ l) : a = sortL l := upL_ext ha (sortL_up l) fun x => (h x).trans (mem_sortL l x).symm
end Go.Proofs.YtkocahlifffgjaaGreat.P
