/- A part of the proofs of some laws of this seat (words of the print and texts of this session, without what these laws do not use). -/
import Derived.Test.YtkocahlifffgjaaGreatTFnExactFillChartp0
import Derived.Test.YtkocahlifffgjaaGreatProg
import Derived.Below
import Derived.Deep.Draws
import Derived.Deep.AppendLies
import Derived.Maps.AppendAt
import Derived.OwnWalk
import Derived.Laws.BytesArg
import Derived.Laws.MakeOwn
import Derived.Laws.OwnMore
import Derived.Deep.OwnRows
import Derived.Tactics
import Derived.Lib.ConvBytes
import Derived.Laws.Slices
import Derived.WalkKit
import Derived.KernelRfl
import Derived.RowKit3
import Derived.Deep.LoopGhost
import Derived.Deep.QuietTactic
import Derived.BigQuiet
import Derived.WideLaws
import Derived.Deep.DeepCutAuto
import Derived.Deep.CutBlock
import Derived.Deep.RegionHeld3
import Derived.Laws.Rows
import Derived.Lib.AppendStr
import Derived.ArgAppend
import Derived.Laws.IdiomCopy
import Derived.OrdersHeld
import Derived.Laws.BitsLemmas
import Derived.RowKit
import Derived.Shelf.Abstract
namespace Go.Proofs.YtkocahlifffgjaaGreatW.PrintWords
open Go.RowKit
namespace Kd
section
variable {α : Type} {d : Kd α} {e base n cap g : Nat} {ok ok' okp : Nat → Prop} {w w1 W : World} {v v1 : Value} {xs ys : List α}
theorem N_appended {rows news : List (List Value)} (h0 : ∀ k, v.ownBlock = some k → ok k) (hl : rows.length = xs.length) (hf : ∀ (j : Nat) (x : α) (c : List Value), xs[j]? = some x → rows[j]? = some c → FK d W (fun k => ok k ∧ some k ≠ v.ownBlock) x c)
 (hl2 : news.length = ys.length) (hf2 : ∀ (j : Nat) (x : α) (c : List Value), ys[j]? = some x → news[j]? = some c → FK d W okp x c) (hokp : ∀ k, okp k → ok k ∧ some k ≠ v.ownBlock) (hfresh : ∀ k, W.heap.size ≤ k → ok k)
 (hR : (raw d.sz).R e w1 base (fun _ => True) v1 (rows ++ news)) (hg : W.grownBy w1 v.ownBlock) (hat : v1.ownBlock = v.ownBlock ∨ ∃ b, v1.ownBlock = some b ∧ W.heap.size ≤ b) : N d e w1 base ok v1 (xs ++ ys) := by
 have hne : ∀ k, some k ≠ v.ownBlock → k < W.heap.size → some k ≠ v1.ownBlock := by
  intro k hk hlt; rcases hat with hat | ⟨b, hb, hle⟩
  · rw [hat]; exact hk
  · rw [hb]; intro he; injection he with he; omega
 have step : ∀ {x : α} {c : List Value} {o : Nat → Prop}, FK d W o x c → (∀ k, o k → ok k ∧ some k ≠ v.ownBlock) → FK d w1 (fun k => ok k ∧ some k ≠ v1.ownBlock) x c := by
  intro x c o hq ho; exact FK_mono (FK_step (FK_bound hq) (fun k hk hlt => hg.block k hlt (ho k hk.1).2)) (fun k hk => ⟨(ho k hk.1).1, hne k (ho k hk.1).2 hk.2⟩)
 refine ⟨fun k hk => ?_, rows ++ news, by rw [List.length_append, List.length_append, hl, hl2], raw_tight hR, fun j x c hx hc => ?_⟩
 · rcases hat with hat | ⟨b, hb, hle⟩
   · exact h0 k (hat ▸ hk)
   · rw [hb] at hk; injection hk with hk; exact hfresh k (by omega)
 · rcases Nat.lt_or_ge j xs.length with hlt | hge
   · rw [List.getElem?_append_left hlt] at hx; rw [List.getElem?_append_left (by omega)] at hc; exact step (hf j x c hx hc) (fun _ hk => hk)
   · rw [List.getElem?_append_right hge] at hx; rw [List.getElem?_append_right (by omega), hl] at hc; exact step (hf2 _ x c hx hc) hokp
theorem FK_raw {x : α} {c : List Value} (h : FK d W ok x c) : c = c ∧ c.length = d.sz ∧ ∀ u ∈ c, u.oneCell' = true := ⟨rfl, d.K_len (FK_now h), d.K_one (FK_now h)⟩
theorem N_made {rows : List (List Value)} (hR : (raw d.sz).R e w1 base (fun k => k = W.heap.size) v1 rows) (hg : W.grownBy w1 none) (hat : ∃ b, v1.ownBlock = some b ∧ W.heap.size ≤ b) (hl : rows.length = xs.length) (hf : ∀ (j : Nat) (x : α) (c : List Value), xs[j]? = some x → rows[j]? = some c → FK d W okp x c)
 (hok : ∀ k, okp k → ok k) (hfresh : ok W.heap.size) : N d e w1 base ok v1 xs := by
 obtain ⟨b, hb, hle⟩ := hat; refine ⟨fun k hk => by rw [hR.1 k hk]; exact hfresh, rows, hl, raw_tight hR, fun j x c hx hc => ?_⟩; refine FK_mono (FK_step (FK_bound (hf j x c hx hc)) (fun k hk hlt => hg.block k hlt (by simp))) (fun k hk => ⟨hok k hk.1, fun he => ?_⟩); rw [hb] at he; injection he with he; have := hk.2; omega
theorem N_written {rows : List (List Value)} {i : Int} {x' : α} {c' : List Value} (h0 : ∀ k, (Value.slice (some ⟨g, 0, none⟩) n cap).ownBlock = some k → ok k) (hl : rows.length = xs.length) (hf : ∀ (j : Nat) (x : α) (c : List Value), xs[j]? = some x → rows[j]? = some c → FK d W (fun k => ok k ∧ some k ≠ (Value.slice (some ⟨g, 0, none⟩) n cap).ownBlock) x c)
 (hR : (raw d.sz).R e w1 base (fun _ => True) (.slice (some ⟨g, 0, none⟩) n cap) (rows.set i.toNat c')) (hg : W.grownBy w1 (some g)) (hM : FK d W okp x' c') (hokp : ∀ k, okp k → ok k ∧ k ≠ g) : N d e w1 base ok (.slice (some ⟨g, 0, none⟩) n cap) (xs.set i.toNat x') := by
 have hgo : some g = (Value.slice (some ⟨g, 0, none⟩) n cap).ownBlock := by simp [Value.ownBlock]
 refine ⟨h0, rows.set i.toNat c', by rw [List.length_set, List.length_set, hl], raw_tight hR, fun j x c hx hc => ?_⟩; have hjl : j < xs.length := by have := (List.getElem?_eq_some_iff.1 hx).1; rwa [List.length_set] at this
 by_cases hji : j = i.toNat
 · subst hji; rw [List.getElem?_set_self hjl] at hx; rw [List.getElem?_set_self (by omega)] at hc; injection hx with hx; injection hc with hc; rw [← hx, ← hc]; exact FK_mono (FK_step hM (fun k hk hlt => hg.block k hlt (fun he => (hokp k hk).2 (by injection he)))) (fun k hk => ⟨(hokp k hk).1, fun he => (hokp k hk).2 (by rw [← hgo] at he; injection he)⟩)
 · rw [List.getElem?_set_ne (Ne.symm hji)] at hx hc; exact FK_step (hf j x c hx hc) (fun k hk hlt => hg.block k hlt (by rw [hgo]; exact hk.2))
theorem N_seg (h : N d e W base ok (.slice (some ⟨g, 0, none⟩) n cap) xs) (i : Int) (h0 : 0 ≤ i) (h1 : i < n) {c seg : List Value} {j : Nat} (hcl : c.length = d.sz) (hcc : ∀ j u, c[j]? = some u → W.cell? ⟨g, i.toNat * d.sz + j, none⟩ = some u)
 (hj : j + seg.length ≤ d.sz) {x' : α} (hM : FK d W okp x' (c.take j ++ seg ++ c.drop (j + seg.length))) (hokp : ∀ k, okp k → ok k ∧ k ≠ g) :
 N d e (W.setCells g (i.toNat * d.sz + j) seg) base ok (.slice (some ⟨g, 0, none⟩) n cap) (xs.set i.toNat x') ∧ W.grownBy (W.setCells g (i.toNat * d.sz + j) seg) (some g) := by
 obtain ⟨hown, rows, hl, hR, hf⟩ := h; obtain ⟨h2, h3⟩ := R_seg (raw_any hR) i h0 h1 (c := c) (seg := seg) (j := j) (x' := c.take j ++ seg ++ c.drop (j + seg.length)) (okp := fun _ => False) hcl hcc hj ⟨rfl, d.K_len (FK_now hM), d.K_one (FK_now hM)⟩ (fun _ hk => hk.elim); exact ⟨N_written hown hl hf h2 h3 hM hokp, h3⟩
theorem reads_raw {Rr : α → List Value → Prop} {sz m : Nat} {A : Option Addr} (h : ReadsRow Rr sz W A m ys) (hR : ∀ x c, Rr x c → c.length = sz ∧ ∀ u ∈ c, u.oneCell' = true) :
 ∃ news : List (List Value), news.length = ys.length ∧ ReadsRow (fun x cs => cs = x ∧ cs.length = sz ∧ ∀ u ∈ cs, u.oneCell' = true) sz W A m news ∧ ∀ (j : Nat) (x : α) (c : List Value), ys[j]? = some x → news[j]? = some c → Rr x c := by
 rcases Nat.eq_zero_or_pos m with h0 | hp
 · have hy : ys = [] := List.eq_nil_of_length_eq_zero (h.1.trans h0); subst hy; exact ⟨[], rfl, ⟨h0 ▸ rfl, h.2.1, fun hp => by omega⟩, fun j x c hx => by simp at hx⟩
 · obtain ⟨ad, rfl, _⟩ := h.2.2 hp; obtain ⟨inner, hr, hc⟩ := ReadsRow.inner_ h; refine ⟨chunks sz ys.length inner, chunks_length _ _ _, ⟨by rw [chunks_length]; exact h.1, h.2.1, fun _ => ⟨ad, rfl, fun j p hj => ?_⟩⟩, fun j x c hx hcc => ?_⟩
   · have hjl : j < ys.length := by have := (List.getElem?_eq_some_iff.1 hj).1; rwa [chunks_length] at this
     have hpe := chunks_get hj; have hq := hR _ _ (hr.2 j _ (List.getElem?_eq_getElem hjl)); rw [← hpe] at hq; refine ⟨p, hq.1, ⟨rfl, hq⟩, fun i u hu => ?_⟩; have hu2 : inner[j * sz + i]? = some u := by
      rw [hpe, List.getElem?_take] at hu
      split at hu
      · rw [List.getElem?_drop] at hu; exact hu
      · cases hu
     exact hc _ u hu2
   · rw [chunks_get hcc]; exact hr.2 j x hx
end
section
variable {P : Program} {ops : Array Oper} {rest : List Oper} {o : Oper} {a : Act} {Q : Exit → Act → World → Prop} {Kc : Act → World → Prop} {α : Type}
theorem N_append (d : Kd α) {w0 W : World} (base : Nat) (hgd : o.guard = none) (s x : Operand) (t e : TypeId) (z : Value) (bytes : Nat)
 (ho : o.op = .call { callee := .builtin .append, args := #[s, x], argTypes := #[t, t] })
 (ht : P.underlying t = some (.slice e)) (hinfo : (P.info? e).map (fun i => (i.zero, i.size, i.bytes)) = some (some z, d.sz, bytes)) (hz : z.cells.size = d.sz) (hs0 : 0 < d.sz) (hb0 : 0 < bytes)
 (v : Value) (xs : List α) (p : α) (cs : List Value) (ok okp : Nat → Prop) (hs : a.eval s = v) (hx : a.eval x = .slice (some ⟨W.heap.size, 0, none⟩) 1 1) (hp : FK d W okp p cs) (hokp : ∀ k, okp k → ok k ∧ some k ≠ v.ownBlock) (hfresh : ∀ k, W.heap.size ≤ k → ok k)
 (HO : N d e W base ok v xs) (HB : Below base w0 W) (hbase : base ≤ W.heap.size) (hl : (xs.length + 1) * bytes ≤ 140737488355328)
 (h : ∀ v1 w1, N d e w1 base ok v1 (xs ++ [p]) → Below base w0 w1 → W.grownBy w1 v.ownBlock → (v1.ownBlock = v.ownBlock ∨ ∃ b, v1.ownBlock = some b ∧ W.heap.size ≤ b) → wpList P ops Q rest (a.put o.dst v1) w1) :
 wpList P ops Q (o :: rest) a (W.alloc (.cells cs.toArray e)) := by
 obtain ⟨h0, rows, hlr, hR, hf⟩ := HO; refine R_append (raw d.sz) base hgd s x t e z bytes ho ht hinfo hz hs0 hb0 v rows cs cs (fun _ => True) (fun _ => False) hs hx (FK_raw hp) (fun _ hk => hk.elim) (fun _ _ => trivial) (raw_any hR) HB hbase (by rw [hlr]; exact hl) ?_; intro v1 w1 hr hb hg hat; exact h v1 w1 (N_appended h0 hlr hf (ys := [p]) (news := [cs]) rfl (fun j y c hy hc => by
  rcases j with _ | j
  · simp only [List.getElem?_cons_zero, Option.some.injEq] at hy hc; rw [← hy, ← hc]; exact hp
  · simp at hy) hokp hfresh hr hg hat) hb hg hat
theorem N_append_rows (d : Kd α) {w0 W : World} (base : Nat) (hgd : o.guard = none) (s x : Operand) (t e : TypeId) (z : Value) (bytes : Nat)
 (ho : o.op = .call { callee := .builtin .append, args := #[s, x], argTypes := #[t, t] })
 (ht : P.underlying t = some (.slice e)) (hinfo : (P.info? e).map (fun i => (i.zero, i.size, i.bytes)) = some (some z, d.sz, bytes)) (hz : z.cells.size = d.sz) (hs0 : 0 < d.sz) (hb0 : 0 < bytes)
 (v : Value) (xs ys : List α) (A : Option Addr) (m c : Nat) (ok okp : Nat → Prop) (hs : a.eval s = v) (hx : a.eval x = .slice A m c)
 (HO : N d e W base ok v xs) (HR : F d W okp A m ys) (hokp : ∀ k, okp k → ok k ∧ some k ≠ v.ownBlock) (hfresh : ∀ k, W.heap.size ≤ k → ok k)
 (HB : Below base w0 W) (hbase : base ≤ W.heap.size) (hl : (xs.length + m) * bytes ≤ 140737488355328)
 (h : ∀ v1 w1, N d e w1 base ok v1 (xs ++ ys) → Below base w0 w1 → W.grownBy w1 v.ownBlock → (v1.ownBlock = v.ownBlock ∨ ∃ b, v1.ownBlock = some b ∧ W.heap.size ≤ b) → wpList P ops Q rest (a.put o.dst v1) w1) :
 wpList P ops Q (o :: rest) a W := by
 obtain ⟨h0, rows, hlr, hR, hf⟩ := HO; obtain ⟨news, hnl, hnr, hnf⟩ := reads_raw (F_rows HR) (fun y c hk => ⟨d.K_len (FK_now hk), d.K_one (FK_now hk)⟩); refine R_append_rows (raw d.sz) base hgd s x t e z bytes ho ht hinfo hz hs0 hb0 v rows news A m c (fun _ => True) (fun _ => False) hs hx (raw_any hR) hnr (fun _ _ hk => hk) (fun _ hk => hk.elim) (fun _ _ => trivial) HB hbase (by rw [hlr]; exact hl) ?_; intro v1 w1 hr hb hg hat; exact h v1 w1 (N_appended h0 hlr hf hnl hnf hokp hfresh hr hg hat) hb hg hat
theorem N_append_rows_step (d : Kd α) {w0 W : World} (base : Nat) (hw : Region.wanted o (yielded ops a.tmps) = true) (s x : Operand) (t e : TypeId) (z : Value) (bytes : Nat)
 (ho : o.op = .call { callee := .builtin .append, args := #[s, x], argTypes := #[t, t] })
 (ht : P.underlying t = some (.slice e)) (hinfo : (P.info? e).map (fun i => (i.zero, i.size, i.bytes)) = some (some z, d.sz, bytes)) (hz : z.cells.size = d.sz) (hs0 : 0 < d.sz) (hb0 : 0 < bytes)
 (v : Value) (xs ys : List α) (A : Option Addr) (m c : Nat) (ok okp : Nat → Prop) (hs : a.eval s = v) (hx : a.eval x = .slice A m c)
 (HO : N d e W base ok v xs) (HR : F d W okp A m ys) (hokp : ∀ k, okp k → ok k ∧ some k ≠ v.ownBlock) (hfresh : ∀ k, W.heap.size ≤ k → ok k)
 (HB : Below base w0 W) (hbase : base ≤ W.heap.size) (hl : (xs.length + m) * bytes ≤ 140737488355328)
 (h : ∀ v1 w1, N d e w1 base ok v1 (xs ++ ys) → Below base w0 w1 → W.grownBy w1 v.ownBlock → (v1.ownBlock = v.ownBlock ∨ ∃ b, v1.ownBlock = some b ∧ W.heap.size ≤ b) → Kc (a.put o.dst v1) w1) :
 if Region.wanted o (yielded ops a.tmps) = true then Oper.wp P o a W Kc Q else Kc (a.put o.dst undef) W := by
 obtain ⟨h0, rows, hlr, hR, hf⟩ := HO; obtain ⟨news, hnl, hnr, hnf⟩ := reads_raw (F_rows HR) (fun y c hk => ⟨d.K_len (FK_now hk), d.K_one (FK_now hk)⟩); refine R_append_rows_step (raw d.sz) base hw s x t e z bytes ho ht hinfo hz hs0 hb0 v rows news A m c (fun _ => True) (fun _ => False) hs hx (raw_any hR) hnr (fun _ _ hk => hk) (fun _ hk => hk.elim) (fun _ _ => trivial) HB hbase (by rw [hlr]; exact hl) ?_; intro v1 w1 hr hb hg hat; exact h v1 w1 (N_appended h0 hlr hf hnl hnf hokp hfresh hr hg hat) hb hg hat
theorem N_lit (d : Kd α) {w0 W : World} (base e : Nat) (hgd : o.guard = none) {N' : Tmp} (_hd : o.dst = some N') {xs : List α} {inner : List Value} {ok okp : Nat → Prop}
 (hrun : (execOp a.eval o).run P W = .ok (.value (.slice (some ⟨W.heap.size, 0, none⟩) xs.length xs.length)) (W.alloc (.cells inner.toArray e)))
 (hrep : Reps (FK d W okp) d.sz xs inner) (hok : ∀ k, okp k → ok k) (hfresh : ok W.heap.size) (HB : Below base w0 W) (hbase : base ≤ W.heap.size) (hm : xs.length ≤ 9223372036854775807)
 (h : ∀ v1 w1, N d e w1 base ok v1 xs → Below base w0 w1 → W.grownBy w1 none → (∃ b, v1.ownBlock = some b ∧ W.heap.size ≤ b) → wpList P ops Q rest (a.put o.dst v1) w1) :
 wpList P ops Q (o :: rest) a W := by
 refine R_lit (raw d.sz) base e hgd _hd (xs := chunks d.sz xs.length inner) (inner := inner) (ok := fun k => k = W.heap.size) (okp := fun _ => False) (by rw [chunks_length]; exact hrun) (reps_raw hrep (fun y c hk => ⟨d.K_len (FK_now hk), d.K_one (FK_now hk)⟩)) (fun _ hk => hk.elim) rfl HB hbase (by rw [chunks_length]; exact hm) ?_; intro v1 w1 hr hb hg hat; exact h v1 w1 (N_made hr hg hat (chunks_length _ _ _) (fun j y c hy hc => by rw [chunks_get hc]; exact hrep.2 j y hy) hok hfresh) hb hg hat
theorem N_lit_step (d : Kd α) {w0 W : World} (base e : Nat) (hw : Region.wanted o (yielded ops a.tmps) = true) {N' : Tmp} (_hd : o.dst = some N') {xs : List α} {inner : List Value} {ok okp : Nat → Prop}
 (hrun : (execOp a.eval o).run P W = .ok (.value (.slice (some ⟨W.heap.size, 0, none⟩) xs.length xs.length)) (W.alloc (.cells inner.toArray e)))
 (hrep : Reps (FK d W okp) d.sz xs inner) (hok : ∀ k, okp k → ok k) (hfresh : ok W.heap.size) (HB : Below base w0 W) (hbase : base ≤ W.heap.size) (hm : xs.length ≤ 9223372036854775807)
 (h : ∀ v1 w1, N d e w1 base ok v1 xs → Below base w0 w1 → W.grownBy w1 none → (∃ b, v1.ownBlock = some b ∧ W.heap.size ≤ b) → Kc (a.put o.dst v1) w1) :
 if Region.wanted o (yielded ops a.tmps) = true then Oper.wp P o a W Kc Q else Kc (a.put o.dst undef) W := by
 refine R_lit_step (raw d.sz) base e hw _hd (xs := chunks d.sz xs.length inner) (inner := inner) (ok := fun k => k = W.heap.size) (okp := fun _ => False) (by rw [chunks_length]; exact hrun) (reps_raw hrep (fun y c hk => ⟨d.K_len (FK_now hk), d.K_one (FK_now hk)⟩)) (fun _ hk => hk.elim) rfl HB hbase (by rw [chunks_length]; exact hm) ?_; intro v1 w1 hr hb hg hat; exact h v1 w1 (N_made hr hg hat (chunks_length _ _ _) (fun j y c hy hc => by rw [chunks_get hc]; exact hrep.2 j y hy) hok hfresh) hb hg hat
end
end Kd
end Go.Proofs.YtkocahlifffgjaaGreatW.PrintWords
namespace Go.Proofs.YtkocahlifffgjaaGreatW.PrintMore
open Go.RowKit Go.Proofs.YtkocahlifffgjaaGreatW.PrintWords
namespace Kd
open Go.Proofs.YtkocahlifffgjaaGreatW.PrintWords.Kd
end Kd
namespace Kd
open Go.Proofs.YtkocahlifffgjaaGreatW.PrintWords.Kd
section
variable {α : Type} {d : Kd α} {e base g N : Nat} {ok : Nat → Prop} {W w1 : World} {u v : Value} {xs : List α}
end
end Kd
theorem max2_int (k k' : IntKind) (x y : Int) : Builtin.max2 (.int k x) (.int k' y) = pure (.int k (if x < y then y else x)) := by simp only [Builtin.max2, gt_iff_lt]
theorem min2_int (k k' : IntKind) (x y : Int) : Builtin.min2 (.int k x) (.int k' y) = pure (.int k (if y < x then y else x)) := by simp only [Builtin.min2]
theorem max_two (ats : Array TypeId) (ty : TypeId) (a b : Value) : Builtin.max_ ats ty #[a, b] = (Builtin.max2 a b >>= fun s => pure s) := by simp only [Builtin.max_, List.foldlM_cons, List.foldlM_nil]
theorem min_two (ats : Array TypeId) (ty : TypeId) (a b : Value) : Builtin.min_ ats ty #[a, b] = (Builtin.min2 a b >>= fun s => pure s) := by simp only [Builtin.min_, List.foldlM_cons, List.foldlM_nil]
theorem max_three (ats : Array TypeId) (ty : TypeId) (a b c : Value) : Builtin.max_ ats ty #[a, b, c] = (Builtin.max2 a b >>= fun s => Builtin.max2 s c >>= fun s => pure s) := by simp only [Builtin.max_, List.foldlM_cons, List.foldlM_nil]
theorem min_three (ats : Array TypeId) (ty : TypeId) (a b c : Value) : Builtin.min_ ats ty #[a, b, c] = (Builtin.min2 a b >>= fun s => Builtin.min2 s c >>= fun s => pure s) := by simp only [Builtin.min_, List.foldlM_cons, List.foldlM_nil]
theorem max_four (ats : Array TypeId) (ty : TypeId) (a b c d : Value) : Builtin.max_ ats ty #[a, b, c, d] = (Builtin.max2 a b >>= fun s => Builtin.max2 s c >>= fun s => Builtin.max2 s d >>= fun s => pure s) := by simp only [Builtin.max_, List.foldlM_cons, List.foldlM_nil]
theorem min_four (ats : Array TypeId) (ty : TypeId) (a b c d : Value) : Builtin.min_ ats ty #[a, b, c, d] = (Builtin.min2 a b >>= fun s => Builtin.min2 s c >>= fun s => Builtin.min2 s d >>= fun s => pure s) := by simp only [Builtin.min_, List.foldlM_cons, List.foldlM_nil]
end Go.Proofs.YtkocahlifffgjaaGreatW.PrintMore
namespace Go.Proofs.YtkocahlifffgjaaGreatW.PrintWords
open Go.RowKit
section
variable {P : Program} {ops : Array Oper} {rest : List Oper} {o : Oper} {a : Act} {Q : Exit → Act → World → Prop} {W : World}
theorem gate_callee {f : FuncId} {as_ : Array Operand} {ts : Array TypeId} (_ho : o.op = .call { callee := .value (.func f), args := as_, argTypes := ts }) (h : wpList P ops Q (o :: rest) a W) : wpList P ops Q (o :: rest) a W := h
theorem gate_builtin {b : Builtin} {xs : Array Operand} {ts : Array TypeId} (_ho : o.op = .call { callee := .builtin b, args := xs, argTypes := ts }) (h : wpList P ops Q (o :: rest) a W) : wpList P ops Q (o :: rest) a W := h
end
def mx (a b : Int) : Int := if a < b then b else a
def mn (a b : Int) : Int := if b < a then b else a
def shl (k : IntKind) (x y : Int) : Int := k.wrap (x * 2 ^ min y.toNat k.bits)
def shr (k : IntKind) (x y : Int) : Int := x / 2 ^ min y.toNat k.bits
theorem drewN_self (w : World) (n : Nat) : w.drewN n = w.drewN n := rfl
namespace Kd
section
variable {α : Type} {d : Kd α} {e base : Nat} {ok : Nat → Prop} {W w1 : World} {v : Value} {xs : List α}
end
section
variable {α : Type} {d : Kd α} {e base g n cap : Nat} {ok oki okp : Nat → Prop} {W : World} {xs : List α} {i : Int} {c : List Value}
end
section
variable {α : Type} {d : Kd α} {e base b b' g N : Nat} {ok ok1 : Nat → Prop} {W W2 w1 : World} {u v : Value} {xs ys : List α} {S : Nat → Prop}
theorem Q_tight (hE : d.E = []) (h : d.Q e W base ok v xs) : d.Q e W base (fun k => some k = v.ownBlock) v xs := by
 obtain ⟨h0, inner, ho, hr⟩ := h; refine ⟨fun k hk => hk.symm, inner, ho, hr.imp_ (fun p c hp => d.M_mono (fun k hk => ?_) (d.M_bound hp))⟩; obtain ⟨_, _, _, q, hq, _⟩ := hk; rw [hE] at hq; cases hq
theorem Q_grown2 (h : d.Q e W base ok v xs) (hE : d.E = []) {row : Option Nat} (hg : W.grownBy w1 row) (hne : ∀ k, row = some k → some k ≠ v.ownBlock) : d.Q e w1 base ok v xs :=
 Q_mono (Q_grown (Q_tight hE h) hg (fun k hk e_ => hne k e_.symm hk)) (fun k hk => h.1 k hk.symm)
theorem R_reok (hE : d.E = []) (h : d.R e W base ok1 v xs) (hok : ∀ k, v.ownBlock = some k → ok k) : d.R e W base ok v xs := R_mono (R_tight hE h) (fun k hk => hok k hk.symm)
theorem R_keptB (h : d.R e W base ok v xs) (hk : Kept W W2 S) (hne : ∀ k, ok k → ¬ S k) : d.R e W2 base (fun k => ok k ∧ (¬ S k ∧ k < W.heap.size)) v xs :=
 R_kept (R_mono (R_bound h) (fun k hk => ⟨hk.1, hne k hk.1, hk.2.2.1⟩)) hk (fun _ hk => hk.2.1)
end
end Kd
end Go.Proofs.YtkocahlifffgjaaGreatW.PrintWords
namespace Go.Proofs.YtkocahlifffgjaaGreatW.PrintWords
open Go.RowKit
namespace Kd
def V {α : Type} (d : Kd α) (_e : Nat) (W : World) (_base : Nat) (ok : Nat → Prop) (v : Value) (xs : List α) : Prop := ∃ A c, v = .slice A xs.length c ∧ xs.length ≤ c ∧ F d W ok A xs.length xs
section
variable {α β : Type} {d : Kd α} {e base base' n m c g N' lo hi : Nat} {ok ok' S : Nat → Prop} {w W w1 : World} {A : Option Addr} {ad : Addr} {u v v1 : Value} {xs : List α}
theorem V_map (h : V d e W base ok v xs) (hF : ∀ A, F d W ok A xs.length xs → F d w1 ok' A xs.length xs) : V d e w1 base' ok' v xs := by
 obtain ⟨A, c, hv, hl, hf⟩ := h; exact ⟨A, c, hv, hl, hF A hf⟩
theorem V_mk (hl : xs.length ≤ c) (hf : F d W ok A xs.length xs) : V d e W base ok (.slice A xs.length c) xs := ⟨A, c, rfl, hl, hf⟩
theorem V_slice (h : V d e W base ok v xs) : ∃ A c, v = .slice A xs.length c := by
 obtain ⟨A, c, hv, _⟩ := h; exact ⟨A, c, hv⟩
theorem V_at (h : V d e W base ok (.slice A n c) xs) : n = xs.length ∧ n ≤ c ∧ F d W ok A xs.length xs := by
 obtain ⟨A', c', hv, hl, hf⟩ := h; injection hv with ha hn hc; subst ha; subst hc; exact ⟨hn, by rw [hn]; exact hl, hf⟩
theorem V_reads' (h : V d e W base ok (.slice A n c) xs) : n = xs.length ∧ n ≤ c ∧ d.C W A xs.length xs := ⟨(V_at h).1, (V_at h).2.1, F_now (V_at h).2.2⟩
theorem V_F (h : V d e W base ok (.slice A n c) xs) : F d W ok A n xs := by
 obtain ⟨hn, _, hf⟩ := V_at h; rw [hn]; exact hf
theorem V_nil (d : Kd α) (e : Nat) (W : World) (base : Nat) (ok : Nat → Prop) : V d e W base ok (.slice none 0 0) [] := ⟨none, 0, rfl, Nat.le_refl _, F_nil d W ok⟩
theorem R_V (h : d.R e W base ok v xs) : V d e W base' ok v xs := by
 obtain ⟨A, c, rfl⟩ := R_slice h; exact ⟨A, c, rfl, (R_reads' h).2.1, R_F h⟩
theorem S_V (h : Kd.S d e W base ok v xs) : V d e W base' ok v xs := R_V (S_R h)
theorem N_V (h : N d e W base ok v xs) : V d e W base' ok v xs := by
 obtain ⟨A, c, rfl⟩ := N_slice h; exact ⟨A, c, rfl, (N_reads' h).2.1, N_F h⟩
theorem V_mono (h : V d e W base ok v xs) (hok : ∀ k, ok k → ok' k) : V d e W base ok' v xs := V_map h (fun _ hf => F_mono hf hok)
theorem V_lower (h : V d e W base ok v xs) (_ : base' ≤ base) : V d e W base' ok v xs := h
theorem V_below (h : V d e W base ok v xs) (hb : Below W.heap.size W w1) : V d e w1 base ok v xs := V_map h (fun _ hf => F_below hf hb)
theorem V_alloc (h : V d e W base ok v xs) (o : Obj) : V d e (W.alloc o) base ok v xs := V_map h (fun _ hf => F_alloc hf o)
theorem V_drew (h : V d e W base ok v xs) : V d e W.drew base ok v xs := V_map h (fun _ hf => F_drew hf)
theorem V_drewN (h : V d e W base ok v xs) (m : Nat) : V d e (W.drewN m) base ok v xs := V_map h (fun _ hf => F_drewN hf m)
theorem V_after (h : V d e W base (fun k => ok k ∧ some k ≠ u.ownBlock) v xs) (hg : W.grownBy w1 u.ownBlock) (hat : v1.ownBlock = u.ownBlock ∨ ∃ b, v1.ownBlock = some b ∧ W.heap.size ≤ b) : V d e w1 base (fun k => ok k ∧ some k ≠ v1.ownBlock) v xs := V_map h (fun _ hf => F_after hf hg hat)
theorem V_afterv (h : V d e W base (fun k => ok k ∧ some k ≠ v.ownBlock) u xs) (hg : W.grownBy w1 v.ownBlock) (hat : v1.ownBlock = v.ownBlock ∨ ∃ b, v1.ownBlock = some b ∧ W.heap.size ≤ b) : V d e w1 base (fun k => ok k ∧ some k ≠ v1.ownBlock) u xs := V_after h hg hat
theorem N_afterv (h : N d e W base (fun k => ok k ∧ some k ≠ v.ownBlock) u xs) (hg : W.grownBy w1 v.ownBlock) (hat : v1.ownBlock = v.ownBlock ∨ ∃ b, v1.ownBlock = some b ∧ W.heap.size ≤ b) : N d e w1 base (fun k => ok k ∧ some k ≠ v1.ownBlock) u xs := N_after h hg hat
theorem V_elder' (h : V d e W base ok v xs) (hbase : ∀ k, u.ownBlock = some k → W.heap.size ≤ k) (hb : Below W.heap.size W w1) : V d e w1 base (fun k => ok k ∧ some k ≠ u.ownBlock) v xs := V_map h (fun _ hf => F_elder' hf hbase hb)
theorem V_get (h : V d e W base ok (.slice (some ad) n c) xs) (z : α) (i : Int) (h0 : 0 ≤ i) (h1 : i < n) :
 ∃ cs, cs.length = d.sz ∧ FK d W ok (xs.getD i.toNat z) cs ∧ ∀ j u, cs[j]? = some u → W.cell? (ad.add (i.toNat * d.sz + j)) = some u := by
 obtain ⟨ad', cs, he, hcl, hK, hcc, _⟩ := F_get (V_F h) z i h0 h1; injection he with he; subst he; exact ⟨cs, hcl, hK, hcc⟩
theorem F_take (h : F d W ok A xs.length xs) (hm : m ≤ xs.length) : F d W ok A (xs.take m).length (xs.take m) := F_imp h (fun _ hC => C_take hC hm)
theorem F_cut (h : F d W ok A xs.length xs) (hm : m ≤ xs.length) (hc : xs.length ≤ c) : F d W ok (if c = m then A else A.map (·.add (m * d.sz))) (xs.drop m).length (xs.drop m) := F_imp h (fun _ hC => C_drop hC hm hc)
theorem FK_slice_open {l : List α} {cs : List Value} (h : FK (Kd.slice e d) W ok l cs) : ∃ A c, cs = [.slice A l.length c] ∧ l.length ≤ c ∧ F d W ok A l.length l := by
 obtain ⟨A, c, rfl, hl, _⟩ := FK_now h; refine ⟨A, c, rfl, hl, fun W' hW => ?_⟩; obtain ⟨A', c', he, _, g'⟩ := h W' hW; injection he with he _; injection he with ha _ _; rw [ha]; exact g'
theorem FK_slice_mk {l : List α} (hl : l.length ≤ c) (hf : F d W ok A l.length l) : FK (Kd.slice e d) W ok l [.slice A l.length c] := fun W' hW => ⟨A, c, rfl, hl, hf W' hW⟩
theorem R_newM {M : Nat → Prop} (h : d.R e w1 W.heap.size ok v xs) (hle : w.heap.size ≤ W.heap.size) (hM : ∀ k, w.heap.size ≤ k → M k) : d.R e w1 W.heap.size (fun k => M k ∧ ok k) v xs := R_mono (R_bound h) (fun k hk => ⟨hM k (Nat.le_trans hle hk.2.1), hk.1⟩)
end
end Kd
end Go.Proofs.YtkocahlifffgjaaGreatW.PrintWords
namespace Go.Proofs.YtkocahlifffgjaaGreat.P
open Go.RowKit Go.Proofs.YtkocahlifffgjaaGreatW.PrintWords Go.Proofs.YtkocahlifffgjaaGreatW.PrintLast Go.Proofs.YtkocahlifffgjaaGreatW.PrintMore
attribute [local go_sem] max2_int min2_int max_two min_two max_three min_three max_four min_four
set_option linter.unusedVariables false
set_option linter.unusedSimpArgs false
def errW : Option Int → Value
 | none => .nilIface
 | some c => .iface 0 (.int .i64 c)
theorem errW_none : errW none = .nilIface := rfl
theorem errW_some (c : Int) : errW (some c) = .iface 0 (.int .i64 c) := rfl
theorem info3 : (Tryz.prog.info? 3).map (fun i => (i.zero, i.size, i.bytes)) = some (some (.int .i64 0), 1, 8) := by kernel_rfl
theorem info23 : (Tryz.prog.info? 23).map (fun i => (i.zero, i.size, i.bytes)) = some (some (.slice none 0 0), 1, 24) := by kernel_rfl
def rd_L1 (xs : List (List Int)) (i : Int) : (List Int) := xs.getD i.toNat ([] : List Int)
theorem at_L1 {w : World} {A : Option Addr} {n : Nat} {xs : List (List Int)} (h : Kd.C (Kd.slice 3 (Kd.int .i64)) w A n xs) (i : Int) (h0 : 0 ≤ i) (h1 : i < n) : ∃ ad A0 c0, A = some ad ∧ w.cell? (ad.add i.toNat) = some (.slice A0 (rd_L1 xs i).length c0) ∧ (rd_L1 xs i).length ≤ c0 ∧ (Kd.int .i64).C w A0 (rd_L1 xs i).length (rd_L1 xs i) := by
 obtain ⟨ad, c, e, _, hK, hc0⟩ := Kd.C_get h ([] : List Int) i h0 h1; have hc : ∀ j u, c[j]? = some u → w.cell? (ad.add (i.toNat * 1 + j)) = some u := hc0; obtain ⟨A0, c0, rfl, l0, g0⟩ := hK; exact ⟨ad, A0, c0, e, by have hq := hc 0 _ rfl; rwa [Nat.mul_one, Nat.add_zero] at hq, l0, g0⟩
def rd_L2 (xs : List (List (List Int))) (i : Int) : (List (List Int)) := xs.getD i.toNat ([] : List (List Int))
structure S32 where
 f0 : Int
 f1 : Int
 f2 : (List (List Int))
 f3 : (List (List Int))
 f4 : (List Int)
 f5 : (List (List Int))
def z32 : S32 := ⟨(0 : Int), (0 : Int), ([] : List (List Int)), ([] : List (List Int)), ([] : List Int), ([] : List (List Int))⟩
def k32 : Kd S32 := Kd.iso (Kd.pair (Kd.int .i64) (Kd.pair (Kd.int .i64) (Kd.pair (Kd.slice 23 (Kd.slice 3 (Kd.int .i64))) (Kd.pair (Kd.slice 23 (Kd.slice 3 (Kd.int .i64))) (Kd.pair (Kd.slice 3 (Kd.int .i64)) (Kd.slice 23 (Kd.slice 3 (Kd.int .i64)))))))) (fun x : S32 => (x.f0, x.f1, x.f2, x.f3, x.f4, x.f5))
def rd_T32 (xs : List S32) (i : Int) : S32 := xs.getD i.toNat z32
structure S34 where
 f0 : Int
 f1 : (List (List Int))
def z34 : S34 := ⟨(0 : Int), ([] : List (List Int))⟩
def k34 : Kd S34 := Kd.iso (Kd.pair (Kd.int .i64) (Kd.slice 23 (Kd.slice 3 (Kd.int .i64)))) (fun x : S34 => (x.f0, x.f1))
def rd_T34 (xs : List S34) (i : Int) : S34 := xs.getD i.toNat z34
def rd_L6 (xs : List (List Bool)) (i : Int) : (List Bool) := xs.getD i.toNat ([] : List Bool)
def laws_eqIntS.l0 : Nat → List Int → List Int → Int → Option (Bool)
 | 0, _, _, _ => none
 | k + 1, x0, x1, x5 => if x5 < (x0.length : Int) then (if 0 ≤ x5 then (if x5 < (x1.length : Int) then (if (rd x0 x5) = (rd x1 x5) then (laws_eqIntS.l0 k x0 x1 (wrap64 (x5 + 1))) else (some false)) else (none)) else (none)) else (some true)
def laws_eqIntS.f (k : Nat) (l0 : List Int) (l1 : List Int) : Option (Bool) := if (l0.length : Int) = (l1.length : Int) then (laws_eqIntS.l0 k l0 l1 0) else (some false)
set_option maxHeartbeats 8000000 in
set_option maxRecDepth 100000 in
theorem laws_eqIntS.calls (k : Nat) (A0 : Option Addr) (c0 : Nat) (l0 : List Int) (A1 : Option Addr) (c1 : Nat) (l1 : List Int) (r : Bool) (w : World) (dA : Kd.C (Kd.int .i64) w A0 l0.length l0) (dB : l0.length ≤ c0) (eJ : Kd.C (Kd.int .i64) w A1 l1.length l1) (eK : l1.length ≤ c1) (h : laws_eqIntS.f k l0 l1 = some r) :
 Calls Tryz.prog 12 #[.slice A0 l0.length c0, .slice A1 l1.length c1] w fun e w' => e = .returned (.bool r) ∧ Drawn0 w w' := by
 have dm := zA dA; have im := zA dB; clear dA dB; have eT := zA eJ; have g5 := zA eK; clear eJ eK; have H : (if (l0.length : Int) = (l1.length : Int) then (laws_eqIntS.l0 k l0 l1 0) else (some false)) = some r := h; clear h; by_cases c3 : (l0.length : Int) = (l1.length : Int)
 · rw [if_pos c3] at H; have cL : ((l0.length : Int) == (l1.length : Int)) = true := beq_iff_eq.mpr c3; have fp : ((l0.length : Int) != (l1.length : Int)) = false := bne_eq_false_iff_eq.mpr c3; have hl : (l0.length == l1.length) = true := by first | simpa using c3 | (simp at c3 ⊢; omega)
   clear c3; have H' := zA H; clear H; go_enter Tryz.func12, Tryz.ntmps12; go_wp2; (repeat (go_quiet (fail); try go_wp2)); go_loopg [5] k (fun kq v5 w' => ∃ (ao : Int), v5 = .int .i64 ao ∧ Aside0 (laws_eqIntS.l0 kq l0 l1 ao = some r) ∧ Aside0 (kq ≤ k) ∧ Drawn0 w w')
   case atStart => exact ⟨(0), zz12, H', ⟨Nat.le_refl _⟩, zz10⟩
   case round =>
    clear H'; (try clear c1); (try clear p2); (try clear c3); (try clear cL); (try clear fp); (try clear hl); obtain ⟨ao, rfl, HA, bw, ⟨m1, rfl⟩⟩ := hrel; cases gk with
    | zero => exact absurd HA.out (by simp [laws_eqIntS.l0])
    | succ k1 =>
     have H := HA.out; clear HA; simp only [laws_eqIntS.l0] at H; by_cases c4 : ao < (l0.length : Int)
     · rw [if_pos c4] at H; have cZ := decide_eq_true c4; clear c4; replace H := zIn H; obtain ⟨c5, H⟩ := H; have eQ : decide (0 ≤ ao) = true := decide_eq_true c5; clear c5; replace H := zIn H; obtain ⟨c6, H⟩ := H; have dk : decide (ao < (l1.length : Int)) = true := decide_eq_true c6; clear c6; by_cases c7 : (rd l0 ao) = (rd l1 ao)
       · rw [if_pos c7] at H; have dF : ((rd l0 ao) == (rd l1 ao)) = true := beq_iff_eq.mpr c7; have kc : ((rd l0 ao) != (rd l1 ao)) = false := bne_eq_false_iff_eq.mpr c7; clear c7; have H' := zA H; clear H; have aH : 0 ≤ (ao : Int) := of_decide_eq_true zz1g; have aI : ao < (l0.length : Int) := of_decide_eq_true zz1g; obtain ⟨bf, bx, a9⟩ := Kd.at_int dm.out ao aH aI; cases bx; replace aH := eq_true aH; replace aI := eq_true aI; have b1 : 0 ≤ (ao : Int) := of_decide_eq_true zz1g; have b2 : ao < (l1.length : Int) := of_decide_eq_true zz1g; obtain ⟨dG, dl, b9⟩ := Kd.at_int eT.out ao b1 b2; cases dl; replace b1 := eq_true b1; replace b2 := eq_true b2; go_wp2; repeat (go_quiet (fail); try go_wp2)
         go_roundg k1
         case measure => have := bw.out; omega
         case rel => exact ⟨(wrap64 (ao + 1)), zz12, H', ⟨zz1b bw⟩, zz10⟩
       · rw [if_neg c7] at H; have dF : ((rd l0 ao) == (rd l1 ao)) = false := beq_eq_false_iff_ne.mpr c7; have kc : ((rd l0 ao) != (rd l1 ao)) = true := bne_iff_ne.mpr c7; obtain rfl := Option.some.inj H; have aH : 0 ≤ (ao : Int) := of_decide_eq_true zz1g; have aI : ao < (l0.length : Int) := of_decide_eq_true zz1g; obtain ⟨bf, bx, a9⟩ := Kd.at_int dm.out ao aH aI; cases bx; replace aH := eq_true aH; replace aI := eq_true aI; have b1 : 0 ≤ (ao : Int) := of_decide_eq_true zz1g; have b2 : ao < (l1.length : Int) := of_decide_eq_true zz1g; obtain ⟨dG, dl, b9⟩ := Kd.at_int eT.out ao b1 b2; cases dl; replace b1 := eq_true b1; replace b2 := eq_true b2; go_wp2; (repeat (go_quiet (fail); try go_wp2)); go_ret; exact ⟨zz12, zz10⟩
     · rw [if_neg c4] at H; have cZ := decide_eq_false c4; clear c4; obtain rfl := Option.some.inj H; go_wp2; (repeat (go_quiet (fail); try go_wp2)); go_ret; exact ⟨zz12, zz10⟩
 · rw [if_neg c3] at H; have cL : ((l0.length : Int) == (l1.length : Int)) = false := beq_eq_false_iff_ne.mpr c3; have fp : ((l0.length : Int) != (l1.length : Int)) = true := bne_iff_ne.mpr c3; have hl : (l0.length == l1.length) = false := by first | simpa using c3 | (simp at c3 ⊢; omega)
   obtain rfl := Option.some.inj H; go_enter Tryz.func12, Tryz.ntmps12; go_wp2; (repeat (go_quiet (fail); try go_wp2)); go_ret; exact ⟨zz12, zz10⟩
def laws_eqIntSS.l0 : Nat → List (List Int) → List (List Int) → Int → Option (Bool)
 | 0, _, _, _ => none
 | k + 1, x0, x1, x5 => if x5 < (x0.length : Int) then (if 0 ≤ x5 then (if x5 < (x1.length : Int) then ((laws_eqIntS.f k (rd_L1 x0 x5) (rd_L1 x1 x5)).bind fun bC => (if bC = true then (laws_eqIntSS.l0 k x0 x1 (wrap64 (x5 + 1))) else (some false))) else (none)) else (none)) else (some true)
def laws_eqIntSS.f (k : Nat) (l0 : List (List Int)) (l1 : List (List Int)) : Option (Bool) := if (l0.length : Int) = (l1.length : Int) then (laws_eqIntSS.l0 k l0 l1 0) else (some false)
set_option maxHeartbeats 8000000 in
set_option maxRecDepth 100000 in
theorem laws_eqIntSS.calls (k : Nat) (A0 : Option Addr) (c0 : Nat) (l0 : List (List Int)) (A1 : Option Addr) (c1 : Nat) (l1 : List (List Int)) (r : Bool) (w : World) (dA : Kd.C (Kd.slice 3 (Kd.int .i64)) w A0 l0.length l0) (dB : l0.length ≤ c0) (eJ : Kd.C (Kd.slice 3 (Kd.int .i64)) w A1 l1.length l1) (eK : l1.length ≤ c1) (h : laws_eqIntSS.f k l0 l1 = some r) :
 Calls Tryz.prog 34 #[.slice A0 l0.length c0, .slice A1 l1.length c1] w fun e w' => e = .returned (.bool r) ∧ Drawn0 w w' := by
 have dm := zA dA; have im := zA dB; clear dA dB; have eT := zA eJ; have g5 := zA eK; clear eJ eK; have H : (if (l0.length : Int) = (l1.length : Int) then (laws_eqIntSS.l0 k l0 l1 0) else (some false)) = some r := h; clear h; by_cases c3 : (l0.length : Int) = (l1.length : Int)
 · rw [if_pos c3] at H; have cL : ((l0.length : Int) == (l1.length : Int)) = true := beq_iff_eq.mpr c3; have fp : ((l0.length : Int) != (l1.length : Int)) = false := bne_eq_false_iff_eq.mpr c3; have hl : (l0.length == l1.length) = true := by first | simpa using c3 | (simp at c3 ⊢; omega)
   clear c3; have H' := zA H; clear H; go_enter Tryz.func34, Tryz.ntmps34; go_wp2; (repeat (go_quiet (fail); try go_wp2)); go_loopg [5] k (fun kq v5 w' => ∃ (ao : Int), v5 = .int .i64 ao ∧ Aside0 (laws_eqIntSS.l0 kq l0 l1 ao = some r) ∧ Aside0 (kq ≤ k) ∧ Drawn0 w w')
   case atStart => exact ⟨(0), zz12, H', ⟨Nat.le_refl _⟩, zz10⟩
   case round =>
    clear H'; (try clear c1); (try clear p2); (try clear c3); (try clear cL); (try clear fp); (try clear hl); obtain ⟨ao, rfl, HA, bw, ⟨m1, rfl⟩⟩ := hrel; cases gk with
    | zero => exact absurd HA.out (by simp [laws_eqIntSS.l0])
    | succ k1 =>
     have H := HA.out; clear HA; simp only [laws_eqIntSS.l0] at H; by_cases c4 : ao < (l0.length : Int)
     · rw [if_pos c4] at H; have cZ := decide_eq_true c4; clear c4; replace H := zIn H; obtain ⟨c5, H⟩ := H; have eQ : decide (0 ≤ ao) = true := decide_eq_true c5; clear c5; replace H := zIn H; obtain ⟨c6, H⟩ := H; have dk : decide (ao < (l1.length : Int)) = true := decide_eq_true c6; clear c6; replace H := Option.bind_eq_some_iff.mp H; obtain ⟨bC, kN, H⟩ := H; have A7 := zA kN; clear kN; by_cases c8 : bC = true
       · subst c8; rw [if_pos rfl] at H; have H' := zA H; clear H; have aH : 0 ≤ (ao : Int) := of_decide_eq_true zz1g; have aI : ao < (l0.length : Int) := of_decide_eq_true zz1g; obtain ⟨bf, ec, ed, bx, a9, b5, b6⟩ := at_L1 dm.out ao aH aI; cases bx; have bW := zA b6; have cm := zA b5; clear b6 b5; replace aH := eq_true aH; replace aI := eq_true aI; have b1 : 0 ≤ (ao : Int) := of_decide_eq_true zz1g; have b2 : ao < (l1.length : Int) := of_decide_eq_true zz1g; obtain ⟨dG, A102_0, c102_0, dl, b9, gi, gj⟩ := at_L1 eT.out ao b1 b2; cases dl; have e8 := zA gj; have e9 := zA gi; clear gj gi; replace b1 := eq_true b1; replace b2 := eq_true b2; go_wp2_with (first | (go_at_call 12; (with_reducible refine (laws_eqIntS.calls k1 _ _ (rd_L1 l0 ao) _ _ (rd_L1 l1 ao) true _ ?al ?am ?aK ?aM A7.out).mono ?_); (case al => repeat (first | exact bW.out | refine zP ?_ _ | refine zQ ?_ _ | refine zR ?_)); (case am => exact cm.out); (case aK => repeat (first | exact e8.out | refine zP ?_ _ | refine zQ ?_ _ | refine zR ?_)); (case aM => exact e9.out); rintro e w' ⟨rfl, ⟨nd, rfl⟩⟩; (try first | exact ⟨rfl, _, World.drewN_drewN _ _ _⟩ | exact ⟨rfl, _, Eq.trans (World.drewN_drewN _ _ _) (congrArg (World.drewN _) (Nat.add_assoc _ _ _))⟩))); repeat (go_quiet (first | (go_at_call 12; (with_reducible refine (laws_eqIntS.calls k1 _ _ (rd_L1 l0 ao) _ _ (rd_L1 l1 ao) true _ ?al ?am ?aK ?aM A7.out).mono ?_); (case al => repeat (first | exact bW.out | refine zP ?_ _ | refine zQ ?_ _ | refine zR ?_)); (case am => exact cm.out); (case aK => repeat (first | exact e8.out | refine zP ?_ _ | refine zQ ?_ _ | refine zR ?_)); (case aM => exact e9.out); rintro e w' ⟨rfl, ⟨nd, rfl⟩⟩; (try first | exact ⟨rfl, _, World.drewN_drewN _ _ _⟩ | exact ⟨rfl, _, Eq.trans (World.drewN_drewN _ _ _) (congrArg (World.drewN _) (Nat.add_assoc _ _ _))⟩))); try go_wp2_with (first | (go_at_call 12; (with_reducible refine (laws_eqIntS.calls k1 _ _ (rd_L1 l0 ao) _ _ (rd_L1 l1 ao) true _ ?al ?am ?aK ?aM A7.out).mono ?_); (case al => repeat (first | exact bW.out | refine zP ?_ _ | refine zQ ?_ _ | refine zR ?_)); (case am => exact cm.out); (case aK => repeat (first | exact e8.out | refine zP ?_ _ | refine zQ ?_ _ | refine zR ?_)); (case aM => exact e9.out); rintro e w' ⟨rfl, ⟨nd, rfl⟩⟩; (try first | exact ⟨rfl, _, World.drewN_drewN _ _ _⟩ | exact ⟨rfl, _, Eq.trans (World.drewN_drewN _ _ _) (congrArg (World.drewN _) (Nat.add_assoc _ _ _))⟩))))
         go_roundg k1
         case measure => have := bw.out; omega
         case rel => exact ⟨(wrap64 (ao + 1)), zz12, H', ⟨zz1b bw⟩, zz10⟩
       · replace c8 := Bool.eq_false_iff.mpr c8; subst c8; rw [if_neg zFt] at H; obtain rfl := Option.some.inj H; have aH : 0 ≤ (ao : Int) := of_decide_eq_true zz1g; have aI : ao < (l0.length : Int) := of_decide_eq_true zz1g; obtain ⟨bf, ec, ed, bx, a9, b5, b6⟩ := at_L1 dm.out ao aH aI; cases bx; have bW := zA b6; have cm := zA b5; clear b6 b5; replace aH := eq_true aH; replace aI := eq_true aI; have b1 : 0 ≤ (ao : Int) := of_decide_eq_true zz1g; have b2 : ao < (l1.length : Int) := of_decide_eq_true zz1g; obtain ⟨dG, A102_0, c102_0, dl, b9, gi, gj⟩ := at_L1 eT.out ao b1 b2; cases dl; have e8 := zA gj; have e9 := zA gi; clear gj gi; replace b1 := eq_true b1; replace b2 := eq_true b2; go_wp2_with (first | (go_at_call 12; (with_reducible refine (laws_eqIntS.calls k1 _ _ (rd_L1 l0 ao) _ _ (rd_L1 l1 ao) false _ ?al ?am ?aK ?aM A7.out).mono ?_); (case al => repeat (first | exact bW.out | refine zP ?_ _ | refine zQ ?_ _ | refine zR ?_)); (case am => exact cm.out); (case aK => repeat (first | exact e8.out | refine zP ?_ _ | refine zQ ?_ _ | refine zR ?_)); (case aM => exact e9.out); rintro e w' ⟨rfl, ⟨nd, rfl⟩⟩; (try first | exact ⟨rfl, _, World.drewN_drewN _ _ _⟩ | exact ⟨rfl, _, Eq.trans (World.drewN_drewN _ _ _) (congrArg (World.drewN _) (Nat.add_assoc _ _ _))⟩))); (repeat (go_quiet (first | (go_at_call 12; (with_reducible refine (laws_eqIntS.calls k1 _ _ (rd_L1 l0 ao) _ _ (rd_L1 l1 ao) false _ ?al ?am ?aK ?aM A7.out).mono ?_); (case al => repeat (first | exact bW.out | refine zP ?_ _ | refine zQ ?_ _ | refine zR ?_)); (case am => exact cm.out); (case aK => repeat (first | exact e8.out | refine zP ?_ _ | refine zQ ?_ _ | refine zR ?_)); (case aM => exact e9.out); rintro e w' ⟨rfl, ⟨nd, rfl⟩⟩; (try first | exact ⟨rfl, _, World.drewN_drewN _ _ _⟩ | exact ⟨rfl, _, Eq.trans (World.drewN_drewN _ _ _) (congrArg (World.drewN _) (Nat.add_assoc _ _ _))⟩))); try go_wp2_with (first | (go_at_call 12; (with_reducible refine (laws_eqIntS.calls k1 _ _ (rd_L1 l0 ao) _ _ (rd_L1 l1 ao) false _ ?al ?am ?aK ?aM A7.out).mono ?_); (case al => repeat (first | exact bW.out | refine zP ?_ _ | refine zQ ?_ _ | refine zR ?_)); (case am => exact cm.out); (case aK => repeat (first | exact e8.out | refine zP ?_ _ | refine zQ ?_ _ | refine zR ?_)); (case aM => exact e9.out); rintro e w' ⟨rfl, ⟨nd, rfl⟩⟩; (try first | exact ⟨rfl, _, World.drewN_drewN _ _ _⟩ | exact ⟨rfl, _, Eq.trans (World.drewN_drewN _ _ _) (congrArg (World.drewN _) (Nat.add_assoc _ _ _))⟩))))); go_ret; exact ⟨zz12, zz10⟩
     · rw [if_neg c4] at H; have cZ := decide_eq_false c4; clear c4; obtain rfl := Option.some.inj H; go_wp2; (repeat (go_quiet (fail); try go_wp2)); go_ret; exact ⟨zz12, zz10⟩
 · rw [if_neg c3] at H; have cL : ((l0.length : Int) == (l1.length : Int)) = false := beq_eq_false_iff_ne.mpr c3; have fp : ((l0.length : Int) != (l1.length : Int)) = true := bne_iff_ne.mpr c3; have hl : (l0.length == l1.length) = false := by first | simpa using c3 | (simp at c3 ⊢; omega)
   obtain rfl := Option.some.inj H; go_enter Tryz.func34, Tryz.ntmps34; go_wp2; (repeat (go_quiet (fail); try go_wp2)); go_ret; exact ⟨zz12, zz10⟩
def laws_eqBinary.f (k : Nat) (af : Int) (aj : Int) (ab : List (List Int)) (ae : List (List Int)) (ai : List Int) (ag : List (List Int)) (bp : Int) (a1_1 : Int) (l1_2 : List (List Int)) (l1_3 : List (List Int)) (l1_4 : List Int) (l1_5 : List (List Int)) : Option (Bool) := if af = bp then (if aj = a1_1 then ((laws_eqIntSS.f k ab l1_2).bind fun bC => (if bC = true then ((laws_eqIntSS.f k ae l1_3).bind fun aZ => (if aZ = true then ((laws_eqIntS.f k ai l1_4).bind fun da => (if da = true then ((laws_eqIntSS.f k ag l1_5).bind fun cB => (if cB = true then (some true) else (some false))) else (some false))) else (some false))) else (some false))) else (some false)) else (some false)
def laws_szIntS.f (l0 : List Int) (a1 : Int) : Option (Int) := if (wrap64 (a1 - (l0.length : Int))) < 0 then (some (-1)) else (some (wrap64 (a1 - (l0.length : Int))))
set_option maxHeartbeats 8000000 in
set_option maxRecDepth 100000 in
theorem laws_szIntS.calls (A0 : Option Addr) (c0 : Nat) (l0 : List Int) (a1 : Int) (r : Int) (w : World) (dA : Kd.C (Kd.int .i64) w A0 l0.length l0) (dB : l0.length ≤ c0) (h : laws_szIntS.f l0 a1 = some r) :
 Calls Tryz.prog 23 #[.slice A0 l0.length c0, .int .i64 a1] w fun e w' => e = .returned (.int .i64 r) ∧ Drawn0 w w' := by
 have dm := zA dA; have im := zA dB; clear dA dB; have H : (if (wrap64 (a1 - (l0.length : Int))) < 0 then (some (-1)) else (some (wrap64 (a1 - (l0.length : Int))))) = some r := h; clear h; by_cases c3 : (wrap64 (a1 - (l0.length : Int))) < 0
 · rw [if_pos c3] at H; have cL := decide_eq_true c3; clear c3; obtain rfl := Option.some.inj H; go_enter Tryz.func23, Tryz.ntmps23; go_wp2; go_ret; exact ⟨zz12, zz10⟩
 · rw [if_neg c3] at H; have cL := decide_eq_false c3; clear c3; obtain rfl := Option.some.inj H; go_enter Tryz.func23, Tryz.ntmps23; go_wp2; go_ret; exact ⟨zz12, zz10⟩
def laws_szIntSS.l0 : Nat → List (List Int) → Int → Int → Option (Int)
 | 0, _, _, _ => none
 | k + 1, x0, x1, x5 => if x5 < (x0.length : Int) then (if 0 ≤ x5 then ((laws_szIntS.f (rd_L1 x0 x5) x1).bind fun aE => (if aE < 0 then (some (-1)) else (laws_szIntSS.l0 k x0 aE (wrap64 (x5 + 1))))) else (none)) else (some x1)
def laws_szIntSS.f (k : Nat) (l0 : List (List Int)) (a1 : Int) : Option (Int) := if (wrap64 (a1 - (l0.length : Int))) < 0 then (some (-1)) else (laws_szIntSS.l0 k l0 (wrap64 (a1 - (l0.length : Int))) 0)
set_option maxHeartbeats 8000000 in
set_option maxRecDepth 100000 in
theorem laws_szIntSS.calls (k : Nat) (A0 : Option Addr) (c0 : Nat) (l0 : List (List Int)) (a1 : Int) (r : Int) (w : World) (dA : Kd.C (Kd.slice 3 (Kd.int .i64)) w A0 l0.length l0) (dB : l0.length ≤ c0) (h : laws_szIntSS.f k l0 a1 = some r) :
 Calls Tryz.prog 22 #[.slice A0 l0.length c0, .int .i64 a1] w fun e w' => e = .returned (.int .i64 r) ∧ Drawn0 w w' := by
 have dm := zA dA; have im := zA dB; clear dA dB; have H : (if (wrap64 (a1 - (l0.length : Int))) < 0 then (some (-1)) else (laws_szIntSS.l0 k l0 (wrap64 (a1 - (l0.length : Int))) 0)) = some r := h; clear h; by_cases c3 : (wrap64 (a1 - (l0.length : Int))) < 0
 · rw [if_pos c3] at H; have cL := decide_eq_true c3; clear c3; obtain rfl := Option.some.inj H; go_enter Tryz.func22, Tryz.ntmps22; go_wp2; go_ret; exact ⟨zz12, zz10⟩
 · rw [if_neg c3] at H; have cL := decide_eq_false c3; clear c3; have H' := zA H; clear H; go_enter Tryz.func22, Tryz.ntmps22; go_wp2; go_loopg [1, 5] k (fun kq v1 v5 w' => ∃ (dc : Int) (ao : Int), v1 = .int .i64 dc ∧ v5 = .int .i64 ao ∧ Aside0 (laws_szIntSS.l0 kq l0 dc ao = some r) ∧ Aside0 (kq ≤ k) ∧ Drawn0 w w')
   case atStart => exact ⟨(wrap64 (a1 - (l0.length : Int))), (0), zz12, zz12, H', ⟨Nat.le_refl _⟩, zz10⟩
   case round =>
    clear H'; (try clear c2); (try clear p2); (try clear c3); (try clear cL); obtain ⟨dc, ao, rfl, rfl, HA, bw, ⟨m1, rfl⟩⟩ := hrel; cases gk with
    | zero => exact absurd HA.out (by simp [laws_szIntSS.l0])
    | succ k1 =>
     have H := HA.out; clear HA; simp only [laws_szIntSS.l0] at H; by_cases c4 : ao < (l0.length : Int)
     · rw [if_pos c4] at H; have cZ := decide_eq_true c4; clear c4; replace H := zIn H; obtain ⟨c5, H⟩ := H; have eQ : decide (0 ≤ ao) = true := decide_eq_true c5; clear c5; replace H := Option.bind_eq_some_iff.mp H; obtain ⟨aE, kO, H⟩ := H; have A6 := zA kO; clear kO; by_cases c7 : aE < 0
       · rw [if_pos c7] at H; have dF := decide_eq_true c7; clear c7; obtain rfl := Option.some.inj H; have aH : 0 ≤ (ao : Int) := of_decide_eq_true zz1g; have aI : ao < (l0.length : Int) := of_decide_eq_true zz1g; obtain ⟨bf, ec, ed, bx, a9, b5, b6⟩ := at_L1 dm.out ao aH aI; cases bx; have bW := zA b6; have cm := zA b5; clear b6 b5; replace aH := eq_true aH; replace aI := eq_true aI; go_wp2_with (first | ((with_reducible refine gate_callee (f := 23) rfl ?_); refine goesL_ (some 23) rfl rfl Tryz.func23 zz1h rfl #[.slice ec (rd_L1 l0 ao).length ed, .int .i64 dc] rfl zz0h ?_; (with_reducible refine (laws_szIntS.calls _ _ (rd_L1 l0 ao) dc aE _ ?al ?am A6.out).mono ?_); (case al => repeat (first | exact bW.out | refine zP ?_ _ | refine zQ ?_ _ | refine zR ?_)); (case am => exact cm.out); rintro e w' ⟨rfl, ⟨nd, rfl⟩⟩; refine ⟨_, rfl, ?_⟩)); go_ret; exact ⟨zz12, zz10⟩
       · rw [if_neg c7] at H; have dF := decide_eq_false c7; clear c7; have H' := zA H; clear H; have aH : 0 ≤ (ao : Int) := of_decide_eq_true zz1g; have aI : ao < (l0.length : Int) := of_decide_eq_true zz1g; obtain ⟨bf, ec, ed, bx, a9, b5, b6⟩ := at_L1 dm.out ao aH aI; cases bx; have bW := zA b6; have cm := zA b5; clear b6 b5; replace aH := eq_true aH; replace aI := eq_true aI; go_wp2_with (first | ((with_reducible refine gate_callee (f := 23) rfl ?_); refine goesL_ (some 23) rfl rfl Tryz.func23 zz1h rfl #[.slice ec (rd_L1 l0 ao).length ed, .int .i64 dc] rfl zz0h ?_; (with_reducible refine (laws_szIntS.calls _ _ (rd_L1 l0 ao) dc aE _ ?al ?am A6.out).mono ?_); (case al => repeat (first | exact bW.out | refine zP ?_ _ | refine zQ ?_ _ | refine zR ?_)); (case am => exact cm.out); rintro e w' ⟨rfl, ⟨nd, rfl⟩⟩; refine ⟨_, rfl, ?_⟩))
         go_roundg k1
         case measure => have := bw.out; omega
         case rel => exact ⟨(aE), (wrap64 (ao + 1)), zz12, zz12, H', ⟨zz1b bw⟩, zz10⟩
     · rw [if_neg c4] at H; have cZ := decide_eq_false c4; clear c4; obtain rfl := Option.some.inj H; go_wp2; go_ret; exact ⟨zz12, zz10⟩
def laws_szBinary.f (k : Nat) (af : Int) (aj : Int) (ab : List (List Int)) (ae : List (List Int)) (ai : List Int) (ag : List (List Int)) (a1 : Int) : Option (Int) := (laws_szIntSS.f k ab a1).bind fun aE => (if aE < 0 then (some (-1)) else ((laws_szIntSS.f k ae aE).bind fun bC => (if bC < 0 then (some (-1)) else ((laws_szIntS.f ai bC).bind fun aZ => (if aZ < 0 then (some (-1)) else ((laws_szIntSS.f k ag aZ).bind fun da => (if da < 0 then (some (-1)) else (some da))))))))
def impl_in.f (a0 : Int) (a1 : Int) (a2 : Int) : Option (Bool) := if a0 ≥ a1 then (some (decide (a0 ≤ a2))) else (some false)
set_option maxHeartbeats 8000000 in
set_option maxRecDepth 100000 in
theorem impl_in.calls (a0 : Int) (a1 : Int) (a2 : Int) (r : Bool) (w : World) (h : impl_in.f a0 a1 a2 = some r) :
 Calls Tryz.prog 48 #[.int .i64 a0, .int .i64 a1, .int .i64 a2] w fun e w' => e = .returned (.bool r) ∧ Drawn0 w w' := by
 have H : (if a0 ≥ a1 then (some (decide (a0 ≤ a2))) else (some false)) = some r := h; clear h; by_cases c4 : a0 ≥ a1
 · rw [if_pos c4] at H; have cZ : decide (a1 ≤ a0) = true := decide_eq_true c4; clear c4; obtain rfl := Option.some.inj H; go_enter Tryz.func48, Tryz.ntmps48; go_wp2; go_ret; exact ⟨zz12, zz10⟩
 · rw [if_neg c4] at H; have cZ : decide (a1 ≤ a0) = false := decide_eq_false c4; clear c4; obtain rfl := Option.some.inj H; go_enter Tryz.func48, Tryz.ntmps48; go_wp2; go_ret; exact ⟨zz12, zz10⟩
def impl_isSymbol.f (a0 : Int) (a1 : Int) (a2 : Int) : Option (Bool) := (impl_in.f a0 (wrap64 (-a2)) (wrap64 (a1 - 1))).bind fun dQ => (some dQ)
set_option maxHeartbeats 8000000 in
set_option maxRecDepth 100000 in
theorem impl_isSymbol.calls (a0 : Int) (a1 : Int) (a2 : Int) (r : Bool) (w : World) (h : impl_isSymbol.f a0 a1 a2 = some r) :
 Calls Tryz.prog 71 #[.int .i64 a0, .int .i64 a1, .int .i64 a2] w fun e w' => e = .returned (.bool r) ∧ Drawn0 w w' := by
 have H : ((impl_in.f a0 (wrap64 (-a2)) (wrap64 (a1 - 1))).bind fun dQ => (some dQ)) = some r := h; clear h; replace H := Option.bind_eq_some_iff.mp H; obtain ⟨dQ, ik, H⟩ := H; have A4 := zA ik; clear ik; obtain rfl := Option.some.inj H; go_enter Tryz.func71, Tryz.ntmps71; go_wp2_with (first | ((with_reducible refine gate_callee (f := 48) rfl ?_); refine goesL_ (some 12) rfl rfl Tryz.func48 zz1h rfl #[.int .i64 a0, .int .i64 (wrap64 (-a2)), .int .i64 (wrap64 (a1 - 1))] rfl zz0h ?_; (with_reducible refine (impl_in.calls a0 (wrap64 (-a2)) (wrap64 (a1 - 1)) dQ _ A4.out).mono ?_); rintro e w' ⟨rfl, ⟨nd, rfl⟩⟩; refine ⟨_, rfl, ?_⟩)); go_ret; exact ⟨zz12, zz10⟩
end Go.Proofs.YtkocahlifffgjaaGreat.P
namespace Go.Proofs.YtkocahlifffgjaaGreat.P
open Go.RowKit Go.Proofs.YtkocahlifffgjaaGreatW.PrintWords Go.Proofs.YtkocahlifffgjaaGreatW.PrintLast Go.Proofs.YtkocahlifffgjaaGreatW.PrintMore
set_option linter.unusedVariables false
set_option linter.unusedSimpArgs false
def idxF {α : Type} (p : α → Bool) (l : List α) : Int := if l.any p = true then (l.findIdx p : Int) else -1
theorem idxF_hit {α : Type} (p : α → Bool) (l : List α) (d : α) (i : Nat) (hi : i < l.length) (h : p (l.getD i d) = true) (hb : ∀ j, j < i → p (l.getD j d) = false) : idxF p l = i := by
 have hg : ∀ j (hj : j < l.length), l.getD j d = l[j] := fun j hj => by rw [List.getD_eq_getElem?_getD, List.getElem?_eq_getElem hj]; rfl
 have hany : l.any p = true := List.any_eq_true.mpr ⟨l[i], List.getElem_mem hi, by rw [← hg i hi]; exact h⟩; unfold idxF; rw [if_pos hany]; have : l.findIdx p = i := (List.findIdx_eq hi).mpr ⟨by rw [← hg i hi]; exact h, fun j hj => by rw [← hg j zz1l]; exact hb j hj⟩; rw [this]
theorem idxF_miss {α : Type} (p : α → Bool) (l : List α) (d : α) (hb : ∀ j, j < l.length → p (l.getD j d) = false) : idxF p l = -1 := by
 unfold idxF; rw [if_neg]; intro h; obtain ⟨x, hx, hp⟩ := List.any_eq_true.mp h; obtain ⟨j, hj, rfl⟩ := List.getElem_of_mem hx; have := hb j hj; rw [List.getD_eq_getElem?_getD, List.getElem?_eq_getElem hj] at this; simp at this; rw [this] at hp; cases hp
theorem idxF_any {α : Type} (p : α → Bool) (l : List α) : decide (0 ≤ idxF p l) = l.any p := by
 unfold idxF; cases h : l.any p <;> simp <;> omega
theorem drawn_below {w w' : World} (h : Drawn0 w w') : Below w.heap.size w w' := by
 obtain ⟨n, rfl⟩ := h; exact zC (Below.refl _ _) n
def PredI (g : Nat) (lb : Array Value) (p : Int → Bool) (w : World) : Prop :=
 ∀ (W : World) (x : Int), Below w.heap.size w W → Calls Tryz.prog g (#[.int .i64 x] ++ lb) W fun e w' => e = .returned (.bool (p x)) ∧ Below W.heap.size W w'
def PredID (g : Nat) (lb : Array Value) (D : Int → Prop) (p : Int → Bool) (w : World) : Prop :=
 ∀ (W : World) (x : Int), Below w.heap.size w W → D x → Calls Tryz.prog g (#[.int .i64 x] ++ lb) W fun e w' => e = .returned (.bool (p x)) ∧ Below W.heap.size W w'
set_option maxHeartbeats 2000000 in
set_option maxRecDepth 100000 in
theorem indexFunc_intD (g : Nat) (lb : Array Value) (eg : ∀ args w, (callFunc g args).run Tryz.prog w = .ok (.enter g args) w) (p : Int → Bool) (A : Option Addr) (c : Nat) (l : List Int) (w : World)
 (hr : Kd.C (Kd.int .i64) w A l.length l) (hc : l.length ≤ c) (D : Int → Prop) (hD : ∀ j : Nat, j < l.length → D (rd l j)) (hp : PredID g lb D p w) :
 Calls Tryz.prog 73 #[.slice A l.length c, .func (.func g) #[] lb] w fun e w' => e = .returned (.int .i64 (idxF p l)) ∧ Below w.heap.size w w' := by
 have hmax : l.length ≤ 9223372036854775807 := hr.2.1; go_enter Tryz.func73, Tryz.ntmps73; go_wp2; go_loopg [5, 8] l.length (fun gg _ s8 wr => ∃ kk : Nat, kk ≤ l.length ∧ l.length - kk ≤ gg ∧ s8 = .int .i64 kk ∧ Aside0 (Below w.heap.size w wr) ∧ Aside0 (∀ j, j < kk → p (l.getD j 0) = false))
 case atStart => exact ⟨0, Nat.zero_le _, zz1l, rfl, ⟨Below.refl _ w⟩, ⟨fun j hj => absurd hj (Nat.not_lt_zero _)⟩⟩
 case round =>
  obtain ⟨kk, hkk, hg, rfl, BW, A0⟩ := hrel; by_cases hlt : kk < l.length
  · obtain ⟨ad, e, hx⟩ := Kd.at_int (zS hr BW.out) (kk : Int) zz1l zz1l; subst e; have hx2 : wr.cell? (ad.add kk) = some (.int .i64 (rd l kk)) := by simpa using hx
    have hcall := hp wr (rd l kk) BW.out (hD kk hlt); have hB := zA (show l.getD kk 0 = rd l kk from rfl); have L := zA hlt; have hd : decide (kk < l.length) = true := decide_eq_true hlt; clear hx hp hr hD; generalize rd l kk = y at hcall hB hx2; cases hq : p y with
    | true =>
     rw [hq] at hcall; have Q := zA hq; clear hq; go_wp2_with fail; refine hcall.mono ?_; rintro e w' ⟨rfl, hb'⟩; clear hcall hd eg hlt; go_wp2; go_ret; refine ⟨?_, zG BW.out hb'⟩; rw [idxF_hit p l 0 kk L.out (zz1a hB Q) A0.out]; rfl
    | false =>
     rw [hq] at hcall; have Q := zA hq; clear hq; go_wp2_with fail; refine hcall.mono ?_; rintro e w' ⟨rfl, hb'⟩; clear hcall hd eg; go_wp2
     go_roundg (l.length - (kk + 1))
     case measure => have := L.out; omega
     case rel =>
      refine ⟨kk + 1, zz1b L, zz1l, zz1j, ⟨zG BW.out hb'⟩, ⟨fun j hj => ?_⟩⟩; by_cases ej : j = kk
      · subst ej; rw [hB.out]; exact Q.out
      · exact A0.out j zz1l
  · have hd : decide (kk < l.length) = false := decide_eq_false hlt; have L := zA (show kk = l.length by omega); clear hp hr hlt hD; go_wp2; go_ret; refine ⟨?_, BW.out⟩; rw [idxF_miss p l 0 (by have := A0.out; rw [L.out] at this; exact this)]; rfl
set_option maxHeartbeats 2000000 in
theorem containsFunc_intD (g : Nat) (lb : Array Value) (eg : ∀ args w, (callFunc g args).run Tryz.prog w = .ok (.enter g args) w) (p : Int → Bool) (A : Option Addr) (c : Nat) (l : List Int) (w : World)
 (hr : Kd.C (Kd.int .i64) w A l.length l) (hc : l.length ≤ c) (D : Int → Prop) (hD : ∀ j : Nat, j < l.length → D (rd l j)) (hp : PredID g lb D p w) :
 Calls Tryz.prog 55 #[.slice A l.length c, .func (.func g) #[] lb] w fun e w' => e = .returned (.bool (l.any p)) ∧ Below w.heap.size w w' := by
 have H := indexFunc_intD g lb eg p A c l w hr hc D hD hp; have hz := zA (idxF_any p l); generalize idxF p l = i at H hz; go_enter Tryz.func55, Tryz.ntmps55; go_wp2_with (go_at_call 73; refine H.mono ?_; rintro e w' ⟨rfl, hb'⟩); go_ret; exact ⟨by rw [← hz.out]; rfl, hb'⟩
theorem containsFunc_int (g : Nat) (lb : Array Value) (eg : ∀ args w, (callFunc g args).run Tryz.prog w = .ok (.enter g args) w) (p : Int → Bool) (A : Option Addr) (c : Nat) (l : List Int) (w : World)
 (hr : Kd.C (Kd.int .i64) w A l.length l) (hc : l.length ≤ c) (hp : PredI g lb p w) :
 Calls Tryz.prog 55 #[.slice A l.length c, .func (.func g) #[] lb] w fun e w' => e = .returned (.bool (l.any p)) ∧ Below w.heap.size w w' :=
 containsFunc_intD g lb eg p A c l w hr hc (fun _ => True) (fun _ _ => trivial) (fun W x hb _ => hp W x hb)
def symB (nons toks x : Int) : Bool := decide (wrap64 (-toks) ≤ x ∧ x ≤ wrap64 (nons - 1))
theorem impl_in_eq (a b c : Int) : impl_in.f a b c = some (decide (b ≤ a ∧ a ≤ c)) := by
 unfold impl_in.f; by_cases h : a ≥ b
 · rw [if_pos h]; congr 2; simp; omega
 · rw [if_neg h]; simp; omega
theorem impl_isSymbol_eq (x nons toks : Int) : impl_isSymbol.f x nons toks = some (symB nons toks x) := by
 unfold impl_isSymbol.f symB; rw [impl_in_eq]; rfl
set_option maxHeartbeats 2000000 in
theorem pred_sym (nons toks : Int) (B C : Nat) (w : World) (hB : B < w.heap.size) (hC : C < w.heap.size) (hcB : w.cell? ⟨B, 0, none⟩ = some (.int .i64 nons)) (hcC : w.cell? ⟨C, 0, none⟩ = some (.int .i64 toks)) :
 PredI 70 #[.pointer (some ⟨B, 0, none⟩), .pointer (some ⟨C, 0, none⟩)] (fun x => !symB nons toks x) w := fun W x hb => by
 have h1 : W.cell? ⟨B, 0, none⟩ = some (.int .i64 nons) := (hb.cell (p := ⟨B, 0, none⟩) hB).trans hcB; have h2 : W.cell? ⟨C, 0, none⟩ = some (.int .i64 toks) := (hb.cell (p := ⟨C, 0, none⟩) hC).trans hcC; have hc := fun w => impl_isSymbol.calls x nons toks _ w (impl_isSymbol_eq x nons toks)
 clear hb hcB hcC; show Calls Tryz.prog 70 #[.int .i64 x, .pointer (some ⟨B, 0, none⟩), .pointer (some ⟨C, 0, none⟩)] W fun e w' => e = .returned (.bool (!symB nons toks x)) ∧ Below W.heap.size W w'
 generalize symB nons toks x = b at hc ⊢; go_enter Tryz.func70, Tryz.ntmps70; go_wp2_with (go_at_call 71; refine (hc _).mono ?_; rintro e w' ⟨rfl, hd⟩); go_ret; exact ⟨rfl, drawn_below hd⟩
def impl_areSymbols.f (l0 : List Int) (a1 a2 : Int) : Option Bool := some (!(l0.any fun x => !symB a1 a2 x))
set_option maxHeartbeats 2000000 in
theorem impl_areSymbols.calls (A0 : Option Addr) (c0 : Nat) (l0 : List Int) (a1 a2 : Int) (r : Bool) (w : World) (hr0 : Kd.C (Kd.int .i64) w A0 l0.length l0) (hc0 : l0.length ≤ c0) (h : impl_areSymbols.f l0 a1 a2 = some r) :
 Calls Tryz.prog 52 #[.slice A0 l0.length c0, .int .i64 a1, .int .i64 a2] w fun e w' => e = .returned (.bool r) ∧ Below w.heap.size w w' := by
 obtain rfl := Option.some.inj h; clear h; have eg : ∀ args w, (callFunc 70 args).run Tryz.prog w = .ok (.enter 70 args) w := enters_of Tryz.func70 zz1h rfl; have H := zA fun (W : World) (B C : Nat) (hW : Below w.heap.size w W) (hB : B < W.heap.size) (hC : C < W.heap.size) (hcB : W.cell? ⟨B, 0, none⟩ = some (.int .i64 a1)) (hcC : W.cell? ⟨C, 0, none⟩ = some (.int .i64 a2)) =>
  containsFunc_int _ #[.pointer (some ⟨B, 0, none⟩), .pointer (some ⟨C, 0, none⟩)] eg (fun x => !symB a1 a2 x) A0 c0 l0 W (zS hr0 hW) hc0 (pred_sym a1 a2 B C W hB hC hcB hcC)
 clear hr0 hc0; generalize (l0.any fun x => !symB a1 a2 x) = b at H ⊢; go_enter Tryz.func52, Tryz.ntmps52; go_wp2_with (go_at_call 55; refine (H.out _ _ _ zz11 (by simp <;> omega) (by simp <;> omega) zz1m zz1m).mono ?_; rintro e w' ⟨rfl, hb'⟩); go_ret; exact ⟨rfl, zG zz11 hb'⟩
set_option maxHeartbeats 8000000 in
set_option maxRecDepth 100000 in
theorem laws_eqBinary.same (k : Nat) (a0_0 : Int) (a0_1 : Int) (A0_2 : Option Addr) (c0_2 : Nat) (l0_2 : List (List Int)) (A0_3 : Option Addr) (c0_3 : Nat) (l0_3 : List (List Int)) (A0_4 : Option Addr) (c0_4 : Nat) (l0_4 : List Int) (A0_5 : Option Addr) (c0_5 : Nat) (l0_5 : List (List Int)) (a1_0 : Int) (a1_1 : Int) (A1_2 : Option Addr) (c1_2 : Nat) (l1_2 : List (List Int)) (A1_3 : Option Addr) (c1_3 : Nat) (l1_3 : List (List Int)) (A1_4 : Option Addr) (c1_4 : Nat) (l1_4 : List Int) (A1_5 : Option Addr) (c1_5 : Nat) (l1_5 : List (List Int)) (_r : Bool) (w : World) (hr0_2 : Kd.C (Kd.slice 3 (Kd.int .i64)) w A0_2 l0_2.length l0_2) (hc0_2 : l0_2.length ≤ c0_2) (hr0_3 : Kd.C (Kd.slice 3 (Kd.int .i64)) w A0_3 l0_3.length l0_3) (hc0_3 : l0_3.length ≤ c0_3) (hr0_4 : Kd.C (Kd.int .i64) w A0_4 l0_4.length l0_4) (hc0_4 : l0_4.length ≤ c0_4) (hr0_5 : Kd.C (Kd.slice 3 (Kd.int .i64)) w A0_5 l0_5.length l0_5) (hc0_5 : l0_5.length ≤ c0_5) (hr1_2 : Kd.C (Kd.slice 3 (Kd.int .i64)) w A1_2 l1_2.length l1_2) (hc1_2 : l1_2.length ≤ c1_2) (hr1_3 : Kd.C (Kd.slice 3 (Kd.int .i64)) w A1_3 l1_3.length l1_3) (hc1_3 : l1_3.length ≤ c1_3) (hr1_4 : Kd.C (Kd.int .i64) w A1_4 l1_4.length l1_4) (hc1_4 : l1_4.length ≤ c1_4) (hr1_5 : Kd.C (Kd.slice 3 (Kd.int .i64)) w A1_5 l1_5.length l1_5) (hc1_5 : l1_5.length ≤ c1_5) (h : laws_eqBinary.f k a0_0 a0_1 l0_2 l0_3 l0_4 l0_5 a1_0 a1_1 l1_2 l1_3 l1_4 l1_5 = some true) :
 Calls Tryz.prog 13 #[.agg #[.int .i64 a0_0, .int .i64 a0_1, .slice A0_2 l0_2.length c0_2, .slice A0_3 l0_3.length c0_3, .slice A0_4 l0_4.length c0_4, .slice A0_5 l0_5.length c0_5], .agg #[.int .i64 a1_0, .int .i64 a1_1, .slice A1_2 l1_2.length c1_2, .slice A1_3 l1_3.length c1_3, .slice A1_4 l1_4.length c1_4, .slice A1_5 l1_5.length c1_5]] w fun e w' => e = .returned (.bool true) ∧ Below w.heap.size w w' := by
 have hu := Tryz.underlying32; have HB := zA (Below.refl w.heap.size w); unfold laws_eqBinary.f at h; by_cases e0 : a0_0 = a1_0; rotate_left
 · rw [if_neg e0] at h; cases h
 rw [if_pos e0] at h; subst e0; by_cases e1 : a0_1 = a1_1; rotate_left
 · rw [if_neg e1] at h; cases h
 rw [if_pos e1] at h; subst e1; obtain ⟨t2, h2, h⟩ := Option.bind_eq_some_iff.mp h; cases t2 with
 | false => rw [if_neg zz1k] at h; cases h
 | true =>
 rw [if_pos rfl] at h; obtain ⟨t3, h3, h⟩ := Option.bind_eq_some_iff.mp h; cases t3 with
 | false => rw [if_neg zz1k] at h; cases h
 | true =>
 rw [if_pos rfl] at h; obtain ⟨t4, h4, h⟩ := Option.bind_eq_some_iff.mp h; cases t4 with
 | false => rw [if_neg zz1k] at h; cases h
 | true =>
 rw [if_pos rfl] at h; obtain ⟨t5, h5, h⟩ := Option.bind_eq_some_iff.mp h; cases t5 with
 | false => rw [if_neg zz1k] at h; cases h
 | true =>
 rw [if_pos rfl] at h; clear h; go_enter Tryz.func13, Tryz.ntmps13; go_wp2_with fail; refine (laws_eqIntSS.calls k A0_2 c0_2 l0_2 A1_2 c1_2 l1_2 true _ (zS hr0_2 (zz0u HB)) hc0_2 (zS hr1_2 (zz0u HB)) hc1_2 h2).mono ?_; rintro e w2 ⟨rfl, hd⟩; have hb := drawn_below hd; clear hd; have NX := zA (zM (o := .cells #[.int .i64 a0_0, .int .i64 a0_1, .slice A0_2 l0_2.length c0_2, .slice A0_3 l0_3.length c0_3, .slice A0_4 l0_4.length c0_4, .slice A0_5 l0_5.length c0_5] 32 (0, 0)) (zH (heap_alloc_new w _) _) hb); have NY := zA (zM (g := (w.alloc (.cells #[.int .i64 a0_0, .int .i64 a0_1, .slice A0_2 l0_2.length c0_2, .slice A0_3 l0_3.length c0_3, .slice A0_4 l0_4.length c0_4, .slice A0_5 l0_5.length c0_5] 32 (0, 0))).heap.size) (o := .cells #[.int .i64 a0_0, .int .i64 a0_1, .slice A1_2 l1_2.length c1_2, .slice A1_3 l1_3.length c1_3, .slice A1_4 l1_4.length c1_4, .slice A1_5 l1_5.length c1_5] 32 (0, 0)) (heap_alloc_new _ _) hb); have NB := zA (zG (zz0u HB) hb); clear hb HB; have BX := NX; have HB := NB; clear NX NB; have BY := NY; clear NY; have x0 : w2.cell? ⟨w.heap.size, 0, none⟩ = some (.int .i64 a0_0) := (zK BX.out 0).trans rfl; have x1 : w2.cell? ⟨w.heap.size, 1, none⟩ = some (.int .i64 a0_1) := (zK BX.out 1).trans rfl; have x2 : w2.cell? ⟨w.heap.size, 2, none⟩ = some (.slice A0_2 l0_2.length c0_2) := (zK BX.out 2).trans rfl; have x3 : w2.cell? ⟨w.heap.size, 3, none⟩ = some (.slice A0_3 l0_3.length c0_3) := (zK BX.out 3).trans rfl; have x4 : w2.cell? ⟨w.heap.size, 4, none⟩ = some (.slice A0_4 l0_4.length c0_4) := (zK BX.out 4).trans rfl; have x5 : w2.cell? ⟨w.heap.size, 5, none⟩ = some (.slice A0_5 l0_5.length c0_5) := (zK BX.out 5).trans rfl; have y0 : w2.cell? ⟨w.heap.size + 1, 0, none⟩ = some (.int .i64 a0_0) := (zK (zz16 BY) 0).trans rfl; have y1 : w2.cell? ⟨w.heap.size + 1, 1, none⟩ = some (.int .i64 a0_1) := (zK (zz16 BY) 1).trans rfl; have y2 : w2.cell? ⟨w.heap.size + 1, 2, none⟩ = some (.slice A1_2 l1_2.length c1_2) := (zK (zz16 BY) 2).trans rfl; have y3 : w2.cell? ⟨w.heap.size + 1, 3, none⟩ = some (.slice A1_3 l1_3.length c1_3) := (zK (zz16 BY) 3).trans rfl; have y4 : w2.cell? ⟨w.heap.size + 1, 4, none⟩ = some (.slice A1_4 l1_4.length c1_4) := (zK (zz16 BY) 4).trans rfl; have y5 : w2.cell? ⟨w.heap.size + 1, 5, none⟩ = some (.slice A1_5 l1_5.length c1_5) := (zK (zz16 BY) 5).trans rfl; go_wp2_with fail; clear x0 x1 x2 x3 x4 x5 y0 y1 y2 y3 y4 y5; refine (laws_eqIntSS.calls k A0_3 c0_3 l0_3 A1_3 c1_3 l1_3 true _ (zS hr0_3 (zz0u HB)) hc0_3 (zS hr1_3 (zz0u HB)) hc1_3 h3).mono ?_; rintro e w3 ⟨rfl, hd⟩; have hb := drawn_below hd; clear hd; have NX := zA (zM BX.out hb); have NY := zA (zM BY.out hb); have NB := zA (zG (zz0u HB) hb); clear hb HB BX BY; have BX := NX; have HB := NB; clear NX NB; have BY := NY; clear NY; have x0 : w3.cell? ⟨w.heap.size, 0, none⟩ = some (.int .i64 a0_0) := (zK BX.out 0).trans rfl; have x1 : w3.cell? ⟨w.heap.size, 1, none⟩ = some (.int .i64 a0_1) := (zK BX.out 1).trans rfl; have x2 : w3.cell? ⟨w.heap.size, 2, none⟩ = some (.slice A0_2 l0_2.length c0_2) := (zK BX.out 2).trans rfl; have x3 : w3.cell? ⟨w.heap.size, 3, none⟩ = some (.slice A0_3 l0_3.length c0_3) := (zK BX.out 3).trans rfl; have x4 : w3.cell? ⟨w.heap.size, 4, none⟩ = some (.slice A0_4 l0_4.length c0_4) := (zK BX.out 4).trans rfl; have x5 : w3.cell? ⟨w.heap.size, 5, none⟩ = some (.slice A0_5 l0_5.length c0_5) := (zK BX.out 5).trans rfl; have y0 : w3.cell? ⟨w.heap.size + 1, 0, none⟩ = some (.int .i64 a0_0) := (zK (zz16 BY) 0).trans rfl; have y1 : w3.cell? ⟨w.heap.size + 1, 1, none⟩ = some (.int .i64 a0_1) := (zK (zz16 BY) 1).trans rfl; have y2 : w3.cell? ⟨w.heap.size + 1, 2, none⟩ = some (.slice A1_2 l1_2.length c1_2) := (zK (zz16 BY) 2).trans rfl; have y3 : w3.cell? ⟨w.heap.size + 1, 3, none⟩ = some (.slice A1_3 l1_3.length c1_3) := (zK (zz16 BY) 3).trans rfl; have y4 : w3.cell? ⟨w.heap.size + 1, 4, none⟩ = some (.slice A1_4 l1_4.length c1_4) := (zK (zz16 BY) 4).trans rfl; have y5 : w3.cell? ⟨w.heap.size + 1, 5, none⟩ = some (.slice A1_5 l1_5.length c1_5) := (zK (zz16 BY) 5).trans rfl; go_wp2_with fail; clear x0 x1 x2 x3 x4 x5 y0 y1 y2 y3 y4 y5; refine (laws_eqIntS.calls k A0_4 c0_4 l0_4 A1_4 c1_4 l1_4 true _ (zS hr0_4 (zz0u HB)) hc0_4 (zS hr1_4 (zz0u HB)) hc1_4 h4).mono ?_; rintro e w4 ⟨rfl, hd⟩; have hb := drawn_below hd; clear hd; have NX := zA (zM BX.out hb); have NY := zA (zM BY.out hb); have NB := zA (zG (zz0u HB) hb); clear hb HB BX BY; have BX := NX; have HB := NB; clear NX NB; have BY := NY; clear NY; have x0 : w4.cell? ⟨w.heap.size, 0, none⟩ = some (.int .i64 a0_0) := (zK BX.out 0).trans rfl; have x1 : w4.cell? ⟨w.heap.size, 1, none⟩ = some (.int .i64 a0_1) := (zK BX.out 1).trans rfl; have x2 : w4.cell? ⟨w.heap.size, 2, none⟩ = some (.slice A0_2 l0_2.length c0_2) := (zK BX.out 2).trans rfl; have x3 : w4.cell? ⟨w.heap.size, 3, none⟩ = some (.slice A0_3 l0_3.length c0_3) := (zK BX.out 3).trans rfl; have x4 : w4.cell? ⟨w.heap.size, 4, none⟩ = some (.slice A0_4 l0_4.length c0_4) := (zK BX.out 4).trans rfl; have x5 : w4.cell? ⟨w.heap.size, 5, none⟩ = some (.slice A0_5 l0_5.length c0_5) := (zK BX.out 5).trans rfl; have y0 : w4.cell? ⟨w.heap.size + 1, 0, none⟩ = some (.int .i64 a0_0) := (zK (zz16 BY) 0).trans rfl; have y1 : w4.cell? ⟨w.heap.size + 1, 1, none⟩ = some (.int .i64 a0_1) := (zK (zz16 BY) 1).trans rfl; have y2 : w4.cell? ⟨w.heap.size + 1, 2, none⟩ = some (.slice A1_2 l1_2.length c1_2) := (zK (zz16 BY) 2).trans rfl; have y3 : w4.cell? ⟨w.heap.size + 1, 3, none⟩ = some (.slice A1_3 l1_3.length c1_3) := (zK (zz16 BY) 3).trans rfl; have y4 : w4.cell? ⟨w.heap.size + 1, 4, none⟩ = some (.slice A1_4 l1_4.length c1_4) := (zK (zz16 BY) 4).trans rfl; have y5 : w4.cell? ⟨w.heap.size + 1, 5, none⟩ = some (.slice A1_5 l1_5.length c1_5) := (zK (zz16 BY) 5).trans rfl; go_wp2_with fail; clear x0 x1 x2 x3 x4 x5 y0 y1 y2 y3 y4 y5; refine (laws_eqIntSS.calls k A0_5 c0_5 l0_5 A1_5 c1_5 l1_5 true _ (zS hr0_5 (zz0u HB)) hc0_5 (zS hr1_5 (zz0u HB)) hc1_5 h5).mono ?_; rintro e w5 ⟨rfl, hd⟩; have hb := drawn_below hd; clear hd; have NX := zA (zM BX.out hb); have NY := zA (zM BY.out hb); have NB := zA (zG (zz0u HB) hb); clear hb HB BX BY; have BX := NX; have HB := NB; clear NX NB; have BY := NY; clear NY; have x0 : w5.cell? ⟨w.heap.size, 0, none⟩ = some (.int .i64 a0_0) := (zK BX.out 0).trans rfl; have x1 : w5.cell? ⟨w.heap.size, 1, none⟩ = some (.int .i64 a0_1) := (zK BX.out 1).trans rfl; have x2 : w5.cell? ⟨w.heap.size, 2, none⟩ = some (.slice A0_2 l0_2.length c0_2) := (zK BX.out 2).trans rfl; have x3 : w5.cell? ⟨w.heap.size, 3, none⟩ = some (.slice A0_3 l0_3.length c0_3) := (zK BX.out 3).trans rfl; have x4 : w5.cell? ⟨w.heap.size, 4, none⟩ = some (.slice A0_4 l0_4.length c0_4) := (zK BX.out 4).trans rfl; have x5 : w5.cell? ⟨w.heap.size, 5, none⟩ = some (.slice A0_5 l0_5.length c0_5) := (zK BX.out 5).trans rfl; have y0 : w5.cell? ⟨w.heap.size + 1, 0, none⟩ = some (.int .i64 a0_0) := (zK (zz16 BY) 0).trans rfl; have y1 : w5.cell? ⟨w.heap.size + 1, 1, none⟩ = some (.int .i64 a0_1) := (zK (zz16 BY) 1).trans rfl; have y2 : w5.cell? ⟨w.heap.size + 1, 2, none⟩ = some (.slice A1_2 l1_2.length c1_2) := (zK (zz16 BY) 2).trans rfl; have y3 : w5.cell? ⟨w.heap.size + 1, 3, none⟩ = some (.slice A1_3 l1_3.length c1_3) := (zK (zz16 BY) 3).trans rfl; have y4 : w5.cell? ⟨w.heap.size + 1, 4, none⟩ = some (.slice A1_4 l1_4.length c1_4) := (zK (zz16 BY) 4).trans rfl; have y5 : w5.cell? ⟨w.heap.size + 1, 5, none⟩ = some (.slice A1_5 l1_5.length c1_5) := (zK (zz16 BY) 5).trans rfl; go_wp2; go_ret; exact ⟨rfl, zz0u HB⟩
set_option maxHeartbeats 8000000 in
set_option maxRecDepth 100000 in
theorem laws_szBinary.fast (k : Nat) (a0_0 : Int) (a0_1 : Int) (A0_2 : Option Addr) (c0_2 : Nat) (l0_2 : List (List Int)) (A0_3 : Option Addr) (c0_3 : Nat) (l0_3 : List (List Int)) (A0_4 : Option Addr) (c0_4 : Nat) (l0_4 : List Int) (A0_5 : Option Addr) (c0_5 : Nat) (l0_5 : List (List Int)) (a1 : Int) (r : Int) (w : World) (hr0_2 : Kd.C (Kd.slice 3 (Kd.int .i64)) w A0_2 l0_2.length l0_2) (hc0_2 : l0_2.length ≤ c0_2) (hr0_3 : Kd.C (Kd.slice 3 (Kd.int .i64)) w A0_3 l0_3.length l0_3) (hc0_3 : l0_3.length ≤ c0_3) (hr0_4 : Kd.C (Kd.int .i64) w A0_4 l0_4.length l0_4) (hc0_4 : l0_4.length ≤ c0_4) (hr0_5 : Kd.C (Kd.slice 3 (Kd.int .i64)) w A0_5 l0_5.length l0_5) (hc0_5 : l0_5.length ≤ c0_5) (h : laws_szBinary.f k a0_0 a0_1 l0_2 l0_3 l0_4 l0_5 a1 = some r) :
 Calls Tryz.prog 5 #[.agg #[.int .i64 a0_0, .int .i64 a0_1, .slice A0_2 l0_2.length c0_2, .slice A0_3 l0_3.length c0_3, .slice A0_4 l0_4.length c0_4, .slice A0_5 l0_5.length c0_5], .int .i64 a1] w fun e w' => e = .returned (.int .i64 r) ∧ Below w.heap.size w w' := by
 have hu := Tryz.underlying25; have HB := zA (Below.refl w.heap.size w); unfold laws_szBinary.f at h; go_enter Tryz.func5, Tryz.ntmps5; obtain ⟨t2, h2, h⟩ := Option.bind_eq_some_iff.mp h; go_wp2_with fail; refine (laws_szIntSS.calls k A0_2 c0_2 l0_2 a1 t2 _ (zS hr0_2 (zz0u HB)) hc0_2 h2).mono ?_; rintro e w2 ⟨rfl, hd⟩; have hb := drawn_below hd; clear hd; have NX := zA (zM (o := .cells #[.int .i64 a0_0, .int .i64 a0_1, .slice A0_2 l0_2.length c0_2, .slice A0_3 l0_3.length c0_3, .slice A0_4 l0_4.length c0_4, .slice A0_5 l0_5.length c0_5] 25 (0, 0)) (heap_alloc_new w _) hb); have NB := zA (zG (zz0u HB) hb); clear hb HB; have BX := NX; have HB := NB; clear NX NB; have x0 : w2.cell? ⟨w.heap.size, 0, none⟩ = some (.int .i64 a0_0) := (zK BX.out 0).trans rfl; have x1 : w2.cell? ⟨w.heap.size, 1, none⟩ = some (.int .i64 a0_1) := (zK BX.out 1).trans rfl; have x2 : w2.cell? ⟨w.heap.size, 2, none⟩ = some (.slice A0_2 l0_2.length c0_2) := (zK BX.out 2).trans rfl; have x3 : w2.cell? ⟨w.heap.size, 3, none⟩ = some (.slice A0_3 l0_3.length c0_3) := (zK BX.out 3).trans rfl; have x4 : w2.cell? ⟨w.heap.size, 4, none⟩ = some (.slice A0_4 l0_4.length c0_4) := (zK BX.out 4).trans rfl; have x5 : w2.cell? ⟨w.heap.size, 5, none⟩ = some (.slice A0_5 l0_5.length c0_5) := (zK BX.out 5).trans rfl; by_cases d2 : t2 < 0
 · rw [if_pos d2] at h; obtain rfl := Option.some.inj h; have d2' : decide (t2 < 0) = true := decide_eq_true d2; clear d2; go_wp2; go_ret; exact ⟨rfl, zz0u HB⟩
 rw [if_neg d2] at h; have d2' : decide (t2 < 0) = false := decide_eq_false d2; clear d2; obtain ⟨t3, h3, h⟩ := Option.bind_eq_some_iff.mp h; go_wp2_with fail; clear x0 x1 x2 x3 x4 x5; refine (laws_szIntSS.calls k A0_3 c0_3 l0_3 t2 t3 _ (zS hr0_3 (zz0u HB)) hc0_3 h3).mono ?_; rintro e w3 ⟨rfl, hd⟩; have hb := drawn_below hd; clear hd; have NX := zA (zM BX.out hb); have NB := zA (zG (zz0u HB) hb); clear hb HB BX; have BX := NX; have HB := NB; clear NX NB; have x0 : w3.cell? ⟨w.heap.size, 0, none⟩ = some (.int .i64 a0_0) := (zK BX.out 0).trans rfl; have x1 : w3.cell? ⟨w.heap.size, 1, none⟩ = some (.int .i64 a0_1) := (zK BX.out 1).trans rfl; have x2 : w3.cell? ⟨w.heap.size, 2, none⟩ = some (.slice A0_2 l0_2.length c0_2) := (zK BX.out 2).trans rfl; have x3 : w3.cell? ⟨w.heap.size, 3, none⟩ = some (.slice A0_3 l0_3.length c0_3) := (zK BX.out 3).trans rfl; have x4 : w3.cell? ⟨w.heap.size, 4, none⟩ = some (.slice A0_4 l0_4.length c0_4) := (zK BX.out 4).trans rfl; have x5 : w3.cell? ⟨w.heap.size, 5, none⟩ = some (.slice A0_5 l0_5.length c0_5) := (zK BX.out 5).trans rfl; by_cases d3 : t3 < 0
 · rw [if_pos d3] at h; obtain rfl := Option.some.inj h; have d3' : decide (t3 < 0) = true := decide_eq_true d3; clear d3; go_wp2; go_ret; exact ⟨rfl, zz0u HB⟩
 rw [if_neg d3] at h; have d3' : decide (t3 < 0) = false := decide_eq_false d3; clear d3; obtain ⟨t4, h4, h⟩ := Option.bind_eq_some_iff.mp h; go_wp2_with fail; clear x0 x1 x2 x3 x4 x5; refine (laws_szIntS.calls A0_4 c0_4 l0_4 t3 t4 _ (zS hr0_4 (zz0u HB)) hc0_4 h4).mono ?_; rintro e w4 ⟨rfl, hd⟩; have hb := drawn_below hd; clear hd; have NX := zA (zM BX.out hb); have NB := zA (zG (zz0u HB) hb); clear hb HB BX; have BX := NX; have HB := NB; clear NX NB; have x0 : w4.cell? ⟨w.heap.size, 0, none⟩ = some (.int .i64 a0_0) := (zK BX.out 0).trans rfl; have x1 : w4.cell? ⟨w.heap.size, 1, none⟩ = some (.int .i64 a0_1) := (zK BX.out 1).trans rfl; have x2 : w4.cell? ⟨w.heap.size, 2, none⟩ = some (.slice A0_2 l0_2.length c0_2) := (zK BX.out 2).trans rfl; have x3 : w4.cell? ⟨w.heap.size, 3, none⟩ = some (.slice A0_3 l0_3.length c0_3) := (zK BX.out 3).trans rfl; have x4 : w4.cell? ⟨w.heap.size, 4, none⟩ = some (.slice A0_4 l0_4.length c0_4) := (zK BX.out 4).trans rfl; have x5 : w4.cell? ⟨w.heap.size, 5, none⟩ = some (.slice A0_5 l0_5.length c0_5) := (zK BX.out 5).trans rfl; by_cases d4 : t4 < 0
 · rw [if_pos d4] at h; obtain rfl := Option.some.inj h; have d4' : decide (t4 < 0) = true := decide_eq_true d4; clear d4; go_wp2; go_ret; exact ⟨rfl, zz0u HB⟩
 rw [if_neg d4] at h; have d4' : decide (t4 < 0) = false := decide_eq_false d4; clear d4; obtain ⟨t5, h5, h⟩ := Option.bind_eq_some_iff.mp h; go_wp2_with fail; clear x0 x1 x2 x3 x4 x5; refine (laws_szIntSS.calls k A0_5 c0_5 l0_5 t4 t5 _ (zS hr0_5 (zz0u HB)) hc0_5 h5).mono ?_; rintro e w5 ⟨rfl, hd⟩; have hb := drawn_below hd; clear hd; have NX := zA (zM BX.out hb); have NB := zA (zG (zz0u HB) hb); clear hb HB BX; have BX := NX; have HB := NB; clear NX NB; have x0 : w5.cell? ⟨w.heap.size, 0, none⟩ = some (.int .i64 a0_0) := (zK BX.out 0).trans rfl; have x1 : w5.cell? ⟨w.heap.size, 1, none⟩ = some (.int .i64 a0_1) := (zK BX.out 1).trans rfl; have x2 : w5.cell? ⟨w.heap.size, 2, none⟩ = some (.slice A0_2 l0_2.length c0_2) := (zK BX.out 2).trans rfl; have x3 : w5.cell? ⟨w.heap.size, 3, none⟩ = some (.slice A0_3 l0_3.length c0_3) := (zK BX.out 3).trans rfl; have x4 : w5.cell? ⟨w.heap.size, 4, none⟩ = some (.slice A0_4 l0_4.length c0_4) := (zK BX.out 4).trans rfl; have x5 : w5.cell? ⟨w.heap.size, 5, none⟩ = some (.slice A0_5 l0_5.length c0_5) := (zK BX.out 5).trans rfl; by_cases d5 : t5 < 0
 · rw [if_pos d5] at h; obtain rfl := Option.some.inj h; have d5' : decide (t5 < 0) = true := decide_eq_true d5; clear d5; go_wp2; go_ret; exact ⟨rfl, zz0u HB⟩
 rw [if_neg d5] at h; have d5' : decide (t5 < 0) = false := decide_eq_false d5; clear d5; obtain rfl := Option.some.inj h; go_wp2; go_ret; exact ⟨rfl, zz0u HB⟩
end Go.Proofs.YtkocahlifffgjaaGreat.P
namespace Go.Proofs.YtkocahlifffgjaaGreat.P
open Go.RowKit Go.Proofs.YtkocahlifffgjaaGreatW.PrintWords
set_option linter.unusedVariables false
set_option linter.unusedSimpArgs false
theorem w64 {x : Int} (h1 : -9223372036854775808 ≤ x) (h2 : x ≤ 9223372036854775807) : wrap64 x = x := by unfold wrap64; omega
theorem getD_drop {α : Type} (l : List α) (i : Nat) (d : α) (h : i < l.length) : l.drop i = l.getD i d :: l.drop (i + 1) := by
 rw [List.drop_eq_getElem_cons h]; congr 1; rw [List.getD_eq_getElem?_getD, List.getElem?_eq_getElem h]; rfl
theorem take_getD {α : Type} (l : List α) (i : Nat) (d : α) (h : i < l.length) : l.take (i + 1) = l.take i ++ [l.getD i d] := by
 rw [List.take_succ_eq_append_getElem h]; congr 2; rw [List.getD_eq_getElem?_getD, List.getElem?_eq_getElem h]; rfl
theorem set_mid {α : Type} (a b : List α) (i : Nat) (x y : α) (h : a.length = i) : (a ++ y :: b).set i x = a ++ x :: b := by
 subst h; rw [List.set_append_right _ _ (Nat.le_refl _), Nat.sub_self, List.set_cons_zero]
theorem rep_succ {α : Type} (n : Nat) (x : α) : List.replicate (n + 1) x = x :: List.replicate n x := rfl
end Go.Proofs.YtkocahlifffgjaaGreat.P
namespace Go.Proofs.YtkocahlifffgjaaGreat.P
open Go.RowKit Go.Proofs.YtkocahlifffgjaaGreatW.PrintWords Go.Proofs.YtkocahlifffgjaaGreatW.PrintLast Go.Proofs.YtkocahlifffgjaaGreatW.PrintMore
attribute [local go_sem] max2_int min2_int max_two min_two max_three min_three max_four min_four
set_option linter.unusedVariables false
set_option linter.unusedSimpArgs false
def laws_markIntS.l0 : Nat → List Int → Int → Int → Option (Int × List Int)
 | 0, _, _, _ => none
 | k + 1, x0, x1, x5 => if x5 < (x0.length : Int) then (if 0 ≤ x5 then (laws_markIntS.l0 k (x0.set (x5 : Int).toNat x1) (wrap64 (x1 + 1)) (wrap64 (x5 + 1))) else (none)) else (some (x1, x0))
def laws_markIntS.f (k : Nat) (l0 : List Int) (a1 : Int) : Option (Int × List Int) := laws_markIntS.l0 k l0 a1 0
set_option maxHeartbeats 8000000 in
set_option maxRecDepth 100000 in
theorem laws_markIntS.calls (k : Nat) (P0_ : Nat → Prop) (eR : Value) (l0 : List Int) (a1 : Int) (r1 : Int) (r2 : List Int) (w0 w : World) (hB : Below w0.heap.size w0 w) (cd : Kd.R (Kd.int .i64) 3 w w0.heap.size P0_ eR l0) (h : laws_markIntS.f k l0 a1 = some (r1, r2)) :
 Calls Tryz.prog 17 #[eR, .int .i64 a1] w fun e w' => e = .returned (.int .i64 r1) ∧ Kd.R (Kd.int .i64) 3 w' w0.heap.size (fun k_ => (P0_ k_ ∨ w.heap.size ≤ k_)) eR r2 ∧ Below w0.heap.size w0 w' ∧ Kept w w' (fun k_ => P0_ k_) := by
 have qw := zA (show Kd.R (Kd.int .i64) 3 w w0.heap.size (fun k_ => (P0_ k_ ∨ w.heap.size ≤ k_)) eR l0 from Kd.R_mono cd (fun k_ hk => (.inl hk))); have HK := zA (Kept.refl w (fun k_ => P0_ k_)); have HW0 := zA hB.size; have HB := zA hB; clear hB; have H : (laws_markIntS.l0 k l0 a1 0) = some (r1, r2) := h; clear h; have H' := zA H; clear H; go_enter Tryz.func17, Tryz.ntmps17; go_wp2; go_loopg [1, 5] k (fun kq v1 v5 w' => ∃ (kd : List Int) (dc : Int) (ao : Int), v1 = .int .i64 dc ∧ v5 = .int .i64 ao ∧ Aside0 (laws_markIntS.l0 kq kd dc ao = some (r1, r2)) ∧ Aside0 (kq ≤ k) ∧ Aside0 (Kd.R (Kd.int .i64) 3 w' w0.heap.size (fun k_ => (P0_ k_ ∨ w.heap.size ≤ k_)) eR kd) ∧ Aside0 (Kept w w' (fun k_ => P0_ k_)) ∧ Aside0 (Below w0.heap.size w0 w'))
 case atStart => exact ⟨(l0), (a1), (0), zz12, zz12, H', ⟨Nat.le_refl _⟩, ⟨zz0y qw⟩, ⟨zz0k HK⟩, ⟨zz0u HB⟩⟩
 case round =>
  clear H'; (try clear c1); (try clear p2); obtain ⟨kd, dc, ao, rfl, rfl, HA, bw, a7, HK, HB⟩ := hrel; cases gk with
  | zero => exact absurd HA.out (by simp [laws_markIntS.l0])
  | succ k1 =>
   have H := HA.out; clear HA; simp only [laws_markIntS.l0] at H; by_cases c3 : ao < (kd.length : Int)
   · rw [if_pos c3] at H; have cL := decide_eq_true c3; clear c3; replace H := zIn H; obtain ⟨c4, H⟩ := H; have cZ : decide (0 ≤ ao) = true := decide_eq_true c4; clear c4; obtain ⟨dx, e_y⟩ : ∃ y_ : List Int, y_ = (kd.set (ao : Int).toNat dc) := ⟨_, rfl⟩
     replace H : (laws_markIntS.l0 k1 dx (wrap64 (dc + 1)) (wrap64 (ao + 1))) = some (r1, r2) := zz05
     have eU := zA e_y; clear e_y; have H' := zA H; clear H; obtain ⟨Ao6, sf, rJ⟩ := Kd.R_slice a7.out; subst rJ; have p5 : 0 ≤ (ao : Int) := of_decide_eq_true zz1g; have q5 : (ao : Int) < ((kd.length : Int) : Int) := of_decide_eq_true zz1g; obtain ⟨go5, co5, sg, sh, gl5, cl5, HG5⟩ := Kd.R_form a7.out zz1l; (first | cases sg | (injection sg with ea_ en_ ec_; (first | subst ea_ | (injection ea_ with ea_; subst ea_)); subst ec_; clear en_)); have GB5 := zA sh; have GG5 := zA HG5; clear sh gl5 HG5; have HMgo5 := zA (show (P0_ go5 ∨ w.heap.size ≤ go5) from (a7.out.1 _ rfl)); obtain ⟨hx5_0, hf5_0⟩ := Kd.R_celln 0 a7.out (ao : Int) p5 q5; replace p5 := eq_true p5; replace q5 := eq_true q5; have rK := Kd.R_putg a7.out (ao : Int) dc; go_wp2_with (first | ((with_reducible refine gate_store (t := 3) (p := 15) rfl ?_); refine store_event (t := 3) (p := 15) (v := ?vo_w8) (w1 := (wr.setCell ⟨go5, (ao : Int).toNat, none⟩ (.int .i64 dc))) ?hg ?ho ?hn ?hr ?_; (case ho => rfl); (case hg => rfl); (case hn => rfl); (case hr => first | (go_simp; done) | (go_simp; rfl)); intro w8 hw; have hg : wr.grownBy w8 (some go5) := (by rw [hw]; exact rK.2); have hp_ : Kd.R (Kd.int .i64) 3 w8 w0.heap.size (fun k_ => (P0_ k_ ∨ w.heap.size ≤ k_)) (.slice (some ⟨go5, 0, none⟩) kd.length sf) dx := (by rw [hw, eU.out]; exact rK.1); clear rK; replace HB := zA ((by rw [hw]; exact zE (HB.out) GB5.out : Below w0.heap.size w0 w8)); replace HK := zA (Kept.of_grown (S := (fun k_ => P0_ k_)) hg (zz0k HK) (fun k_ e_ => (a7.out.1 k_ e_))); replace a7 := zA (hp_); clear hg hw hp_))
     go_roundg k1
     case measure => have := bw.out; omega
     case rel => exact ⟨(dx), (wrap64 (dc + 1)), (wrap64 (ao + 1)), zz12, zz12, H', ⟨zz1b bw⟩, ⟨zz0y a7⟩, ⟨zz0k HK⟩, ⟨zz0u HB⟩⟩
   · rw [if_neg c3] at H; have cL := decide_eq_false c3; clear c3; simp only [Option.some.injEq, Prod.mk.injEq] at H; obtain ⟨rfl, rfl⟩ := H; obtain ⟨Ao9, si, rC⟩ := Kd.R_slice a7.out; subst rC; go_wp2; go_ret; exact ⟨zz0v, zz0y a7, zz0u HB, zz0k HK⟩
def laws_heldIntS.l0 : Nat → List Int → Int → Int → Option (Int)
 | 0, _, _, _ => none
 | k + 1, x0, x1, x5 => if x5 < (x0.length : Int) then (if 0 ≤ x5 then (if (rd x0 x5) = x1 then (laws_heldIntS.l0 k x0 (wrap64 (x1 + 1)) (wrap64 (x5 + 1))) else (some (-1))) else (none)) else (some x1)
def laws_heldIntS.f (k : Nat) (l0 : List Int) (a1 : Int) : Option (Int) := laws_heldIntS.l0 k l0 a1 0
set_option maxHeartbeats 8000000 in
set_option maxRecDepth 100000 in
theorem laws_heldIntS.calls (k : Nat) (A0 : Option Addr) (c0 : Nat) (l0 : List Int) (a1 : Int) (r : Int) (w : World) (dA : Kd.C (Kd.int .i64) w A0 l0.length l0) (dB : l0.length ≤ c0) (h : laws_heldIntS.f k l0 a1 = some r) :
 Calls Tryz.prog 18 #[.slice A0 l0.length c0, .int .i64 a1] w fun e w' => e = .returned (.int .i64 r) ∧ Drawn0 w w' := by
 have dm := zA dA; have im := zA dB; clear dA dB; have H : (laws_heldIntS.l0 k l0 a1 0) = some r := h; clear h; have H' := zA H; clear H; go_enter Tryz.func18, Tryz.ntmps18; go_wp2; go_loopg [1, 5] k (fun kq v1 v5 w' => ∃ (dc : Int) (ao : Int), v1 = .int .i64 dc ∧ v5 = .int .i64 ao ∧ Aside0 (laws_heldIntS.l0 kq l0 dc ao = some r) ∧ Aside0 (kq ≤ k) ∧ Drawn0 w w')
 case atStart => exact ⟨(a1), (0), zz12, zz12, H', ⟨Nat.le_refl _⟩, zz10⟩
 case round =>
  clear H'; (try clear c1); (try clear p2); obtain ⟨dc, ao, rfl, rfl, HA, bw, ⟨m1, rfl⟩⟩ := hrel; cases gk with
  | zero => exact absurd HA.out (by simp [laws_heldIntS.l0])
  | succ k1 =>
   have H := HA.out; clear HA; simp only [laws_heldIntS.l0] at H; by_cases c3 : ao < (l0.length : Int)
   · rw [if_pos c3] at H; have cL := decide_eq_true c3; clear c3; replace H := zIn H; obtain ⟨c4, H⟩ := H; have cZ : decide (0 ≤ ao) = true := decide_eq_true c4; clear c4; by_cases c5 : (rd l0 ao) = dc
     · rw [if_pos c5] at H; have eQ : ((rd l0 ao) == dc) = true := beq_iff_eq.mpr c5; have lJ : ((rd l0 ao) != dc) = false := bne_eq_false_iff_eq.mpr c5; clear c5; have H' := zA H; clear H; have aH : 0 ≤ (ao : Int) := of_decide_eq_true zz1g; have aI : ao < (l0.length : Int) := of_decide_eq_true zz1g; obtain ⟨bf, bx, a9⟩ := Kd.at_int dm.out ao aH aI; cases bx; replace aH := eq_true aH; replace aI := eq_true aI; go_wp2
       go_roundg k1
       case measure => have := bw.out; omega
       case rel => exact ⟨(wrap64 (dc + 1)), (wrap64 (ao + 1)), zz12, zz12, H', ⟨zz1b bw⟩, zz10⟩
     · rw [if_neg c5] at H; have eQ : ((rd l0 ao) == dc) = false := beq_eq_false_iff_ne.mpr c5; have lJ : ((rd l0 ao) != dc) = true := bne_iff_ne.mpr c5; obtain rfl := Option.some.inj H; have aH : 0 ≤ (ao : Int) := of_decide_eq_true zz1g; have aI : ao < (l0.length : Int) := of_decide_eq_true zz1g; obtain ⟨bf, bx, a9⟩ := Kd.at_int dm.out ao aH aI; cases bx; replace aH := eq_true aH; replace aI := eq_true aI; go_wp2; go_ret; exact ⟨zz12, zz10⟩
   · rw [if_neg c3] at H; have cL := decide_eq_false c3; clear c3; obtain rfl := Option.some.inj H; go_wp2; go_ret; exact ⟨zz12, zz10⟩
end Go.Proofs.YtkocahlifffgjaaGreat.P
namespace Go.Proofs.YtkocahlifffgjaaGreat.P
open Go.RowKit Go.Proofs.YtkocahlifffgjaaGreatW.PrintWords Go.Proofs.YtkocahlifffgjaaGreatW.PrintLast Go.Proofs.YtkocahlifffgjaaGreatW.PrintMore
set_option linter.unusedVariables false
set_option linter.unusedSimpArgs false
def ramp (n : Int) : Nat → List Int
 | 0 => []
 | m + 1 => ramp n m ++ [n + m]
theorem ramp_len (n : Int) (m : Nat) : (ramp n m).length = m := by
 induction m with
 | zero => rfl
 | succ m ih => simp [ramp, ih]
theorem ramp_get (n : Int) (m i : Nat) (h : i < m) : (ramp n m).getD i 0 = n + i := by
 induction m with
 | zero => omega
 | succ m ih =>
  simp only [ramp, List.getD_eq_getElem?_getD]; by_cases e : i < m
  · rw [List.getElem?_append_left (by rw [ramp_len]; exact e), ← List.getD_eq_getElem?_getD]; exact ih e
  · obtain rfl : i = m := by omega
    rw [List.getElem?_append_right (by rw [ramp_len]; omega)]; simp [ramp_len]
theorem markIntS_loop (l : List Int) (hl : l.length ≤ 1152921504606846976) (n : Int) (hn : 0 ≤ n) (hn' : n ≤ 1152921504606846976) (d : Nat) : ∀ (k i : Nat), i ≤ l.length → l.length - i = d → d < k →
 laws_markIntS.l0 k (ramp n i ++ l.drop i) (n + i) i = some (n + (l.length : Int), ramp n l.length) := by
 induction d with
 | zero =>
  intro k i h1 hd hk; obtain ⟨k, rfl⟩ : ∃ m, k = m + 1 := ⟨k - 1, zz1l⟩
  obtain rfl : i = l.length := by omega
  simp only [laws_markIntS.l0]; rw [if_neg (by simp [ramp_len])]; simp
 | succ d ih =>
  intro k i h1 hd hk; obtain ⟨k, rfl⟩ : ∃ m, k = m + 1 := ⟨k - 1, zz1l⟩
  simp only [laws_markIntS.l0]; rw [if_pos (by simp [ramp_len]; omega), if_pos zz1l]; have e1 : wrap64 ((i : Int) + 1) = ((i + 1 : Nat) : Int) := by unfold wrap64; omega
  have e2 : wrap64 (n + (i : Int) + 1) = n + ((i + 1 : Nat) : Int) := by unfold wrap64; omega
  have e3 : (ramp n i ++ l.drop i).set (i : Int).toNat (n + i) = ramp n (i + 1) ++ l.drop (i + 1) := by
   rw [getD_drop l i 0 zz1l, Int.toNat_natCast, set_mid _ _ _ _ _ (ramp_len n i)]; simp [ramp]
  rw [e1, e2, e3]; exact ih k (i + 1) zz1l zz1l zz1l
theorem markIntS_eq (l : List Int) (hl : l.length ≤ 1152921504606846976) (n : Int) (hn : 0 ≤ n) (hn' : n ≤ 1152921504606846976) (k : Nat) (hk : l.length < k) : laws_markIntS.f k l n = some (n + (l.length : Int), ramp n l.length) := by
 have := markIntS_loop l hl n hn hn' l.length k 0 zz1l zz1l hk; unfold laws_markIntS.f; simpa [ramp] using this
theorem heldIntS_loop (m : Nat) (hm : m ≤ 1152921504606846976) (n : Int) (hn : 0 ≤ n) (hn' : n ≤ 1152921504606846976) (d : Nat) : ∀ (k i : Nat), i ≤ m → m - i = d → d < k →
 laws_heldIntS.l0 k (ramp n m) (n + i) i = some (n + (m : Int)) := by
 induction d with
 | zero =>
  intro k i h1 hd hk; obtain ⟨k, rfl⟩ : ∃ m, k = m + 1 := ⟨k - 1, zz1l⟩
  obtain rfl : i = m := by omega
  simp only [laws_heldIntS.l0]; rw [if_neg (by simp [ramp_len])]
 | succ d ih =>
  intro k i h1 hd hk; obtain ⟨k, rfl⟩ : ∃ m, k = m + 1 := ⟨k - 1, zz1l⟩
  simp only [laws_heldIntS.l0]; rw [if_pos (by simp [ramp_len]; omega), if_pos zz1l, if_pos (by unfold rd; simpa using ramp_get n m i zz1l)]; have e1 : wrap64 ((i : Int) + 1) = ((i + 1 : Nat) : Int) := by unfold wrap64; omega
  have e2 : wrap64 (n + (i : Int) + 1) = n + ((i + 1 : Nat) : Int) := by unfold wrap64; omega
  rw [e1, e2]; exact ih k (i + 1) zz1l zz1l zz1l
theorem heldIntS_eq (m : Nat) (hm : m ≤ 1152921504606846976) (n : Int) (hn : 0 ≤ n) (hn' : n ≤ 1152921504606846976) (k : Nat) (hk : m < k) : laws_heldIntS.f k (ramp n m) n = some (n + (m : Int)) := by
 have := heldIntS_loop m hm n hn hn' m k 0 zz1l zz1l hk; unfold laws_heldIntS.f; simpa using this
theorem markIntS_calls (P0_ : Nat → Prop) (u : Value) (l0 : List Int) (a1 : Int) (w0 w : World) (hB : Below w0.heap.size w0 w) (ho0 : Kd.R (Kd.int .i64) 3 w w0.heap.size P0_ u l0) (ha : 0 ≤ a1) (hs : a1 + (l0.length : Int) ≤ 1152921504606846976) :
 Calls Tryz.prog 17 #[u, .int .i64 a1] w fun e w' => e = .returned (.int .i64 (a1 + (l0.length : Int))) ∧ Kd.R (Kd.int .i64) 3 w' w0.heap.size P0_ u (ramp a1 l0.length) ∧ Below w0.heap.size w0 w' ∧ Kept w w' P0_ := by
 refine (laws_markIntS.calls (l0.length + 1) P0_ u l0 a1 _ _ w0 w hB ho0 (markIntS_eq l0 zz1l a1 ha zz1l (l0.length + 1) zz1l)).mono ?_; rintro e w' ⟨he, ho, hb, hk⟩; exact ⟨he, Kd.R_mono (Kd.R_tight rfl ho) (fun q hq => ho0.1 q hq.symm), hb, hk⟩
end Go.Proofs.YtkocahlifffgjaaGreat.P
namespace Go.Proofs.YtkocahlifffgjaaGreat.P
open Go.RowKit Go.Proofs.YtkocahlifffgjaaGreatW.PrintWords Go.Proofs.YtkocahlifffgjaaGreatW.PrintLast Go.Proofs.YtkocahlifffgjaaGreatW.PrintMore
attribute [local go_sem] max2_int min2_int max_two min_two max_three min_three max_four min_four
set_option linter.unusedVariables false
set_option linter.unusedSimpArgs false
def laws_heldIntSS.l0 : Nat → List (List Int) → Int → Int → Option (Int)
 | 0, _, _, _ => none
 | k + 1, x0, x1, x5 => if x5 < (x0.length : Int) then (if 0 ≤ x5 then ((laws_heldIntS.f k (rd_L1 x0 x5) x1).bind fun aE => (if aE < 0 then (some (-1)) else (laws_heldIntSS.l0 k x0 aE (wrap64 (x5 + 1))))) else (none)) else (some x1)
def laws_heldIntSS.f (k : Nat) (l0 : List (List Int)) (a1 : Int) : Option (Int) := laws_heldIntSS.l0 k l0 a1 0
set_option maxHeartbeats 8000000 in
set_option maxRecDepth 100000 in
theorem laws_heldIntSS.calls (k : Nat) (A0 : Option Addr) (c0 : Nat) (l0 : List (List Int)) (a1 : Int) (r : Int) (w : World) (dA : Kd.C (Kd.slice 3 (Kd.int .i64)) w A0 l0.length l0) (dB : l0.length ≤ c0) (h : laws_heldIntSS.f k l0 a1 = some r) :
 Calls Tryz.prog 38 #[.slice A0 l0.length c0, .int .i64 a1] w fun e w' => e = .returned (.int .i64 r) ∧ Drawn0 w w' := by
 have dm := zA dA; have im := zA dB; clear dA dB; have H : (laws_heldIntSS.l0 k l0 a1 0) = some r := h; clear h; have H' := zA H; clear H; go_enter Tryz.func38, Tryz.ntmps38; go_wp2; go_loopg [1, 5] k (fun kq v1 v5 w' => ∃ (dc : Int) (ao : Int), v1 = .int .i64 dc ∧ v5 = .int .i64 ao ∧ Aside0 (laws_heldIntSS.l0 kq l0 dc ao = some r) ∧ Aside0 (kq ≤ k) ∧ Drawn0 w w')
 case atStart => exact ⟨(a1), (0), zz12, zz12, H', ⟨Nat.le_refl _⟩, zz10⟩
 case round =>
  clear H'; (try clear p2); obtain ⟨dc, ao, rfl, rfl, HA, bw, ⟨m1, rfl⟩⟩ := hrel; cases gk with
  | zero => exact absurd HA.out (by simp [laws_heldIntSS.l0])
  | succ k1 =>
   have H := HA.out; clear HA; simp only [laws_heldIntSS.l0] at H; by_cases c3 : ao < (l0.length : Int)
   · rw [if_pos c3] at H; have cL := decide_eq_true c3; clear c3; replace H := zIn H; obtain ⟨c4, H⟩ := H; have cZ : decide (0 ≤ ao) = true := decide_eq_true c4; clear c4; replace H := Option.bind_eq_some_iff.mp H; obtain ⟨aE, kP, H⟩ := H; have A5 := zA kP; clear kP; by_cases c6 : aE < 0
     · rw [if_pos c6] at H; have dk := decide_eq_true c6; clear c6; obtain rfl := Option.some.inj H; have aH : 0 ≤ (ao : Int) := of_decide_eq_true zz1g; have aI : ao < (l0.length : Int) := of_decide_eq_true zz1g; obtain ⟨bf, ec, ed, bx, a9, b5, b6⟩ := at_L1 dm.out ao aH aI; cases bx; have bW := zA b6; have cm := zA b5; clear b6 b5; replace aH := eq_true aH; replace aI := eq_true aI; go_wp2_with (first | ((with_reducible refine gate_callee (f := 18) rfl ?_); refine goesL_ (some 17) rfl rfl Tryz.func18 zz1h rfl #[.slice ec (rd_L1 l0 ao).length ed, .int .i64 dc] rfl zz0h ?_; (with_reducible refine (laws_heldIntS.calls k1 _ _ (rd_L1 l0 ao) dc aE _ ?al ?am A5.out).mono ?_); (case al => repeat (first | exact bW.out | refine zP ?_ _ | refine zQ ?_ _ | refine zR ?_)); (case am => exact cm.out); rintro e w' ⟨rfl, ⟨nd, rfl⟩⟩; refine ⟨_, rfl, ?_⟩)); go_ret; exact ⟨zz12, zz10⟩
     · rw [if_neg c6] at H; have dk := decide_eq_false c6; clear c6; have H' := zA H; clear H; have aH : 0 ≤ (ao : Int) := of_decide_eq_true zz1g; have aI : ao < (l0.length : Int) := of_decide_eq_true zz1g; obtain ⟨bf, ec, ed, bx, a9, b5, b6⟩ := at_L1 dm.out ao aH aI; cases bx; have bW := zA b6; have cm := zA b5; clear b6 b5; replace aH := eq_true aH; replace aI := eq_true aI; go_wp2_with (first | ((with_reducible refine gate_callee (f := 18) rfl ?_); refine goesL_ (some 17) rfl rfl Tryz.func18 zz1h rfl #[.slice ec (rd_L1 l0 ao).length ed, .int .i64 dc] rfl zz0h ?_; (with_reducible refine (laws_heldIntS.calls k1 _ _ (rd_L1 l0 ao) dc aE _ ?al ?am A5.out).mono ?_); (case al => repeat (first | exact bW.out | refine zP ?_ _ | refine zQ ?_ _ | refine zR ?_)); (case am => exact cm.out); rintro e w' ⟨rfl, ⟨nd, rfl⟩⟩; refine ⟨_, rfl, ?_⟩))
       go_roundg k1
       case measure => have := bw.out; omega
       case rel => exact ⟨(aE), (wrap64 (ao + 1)), zz12, zz12, H', ⟨zz1b bw⟩, zz10⟩
   · rw [if_neg c3] at H; have cL := decide_eq_false c3; clear c3; obtain rfl := Option.some.inj H; go_wp2; go_ret; exact ⟨zz12, zz10⟩
end Go.Proofs.YtkocahlifffgjaaGreat.P
namespace Go.Proofs.YtkocahlifffgjaaGreat.P
open Go.RowKit Go.Proofs.YtkocahlifffgjaaGreatW.PrintWords Go.Proofs.YtkocahlifffgjaaGreatW.PrintLast Go.Proofs.YtkocahlifffgjaaGreatW.PrintMore
set_option linter.unusedVariables false
set_option linter.unusedSimpArgs false
def szRows : List (List Int) → Nat
 | [] => 0
 | r :: l => r.length + szRows l
def mkRows : List (List Int) → Int → List (List Int)
 | [], _ => []
 | r :: l, a => ramp a r.length :: mkRows l (a + r.length)
theorem mkRows_len (l : List (List Int)) : ∀ a, (mkRows l a).length = l.length := by
 induction l with
 | nil => intro a; rfl
 | cons r l ih => intro a; simp [mkRows, ih]
theorem szRows_append (l m : List (List Int)) : szRows (l ++ m) = szRows l + szRows m := by
 induction l with
 | nil => simp [szRows]
 | cons r l ih => simp only [List.cons_append, szRows, ih]; omega
theorem mkRows_append (l m : List (List Int)) : ∀ a, mkRows (l ++ m) a = mkRows l a ++ mkRows m (a + szRows l) := by
 induction l with
 | nil => intro a; simp [szRows, mkRows]
 | cons r l ih => intro a; simp only [List.cons_append, mkRows, szRows, ih]; congr 3; omega
theorem szRows_take (l : List (List Int)) (i : Nat) : szRows (l.take i) ≤ szRows l := by
 have := szRows_append (l.take i) (l.drop i); rw [List.take_append_drop] at this; omega
theorem szRows_small (l : List (List Int)) (B : Nat) (hs : ∀ r, r ∈ l → r.length ≤ B) : szRows l ≤ l.length * B := by
 induction l with
 | nil => simp [szRows]
 | cons r l ih =>
  have h0 := hs r zz1m; have h1 := ih (fun r hr => hs r (by simp [hr])); simp only [szRows, List.length_cons, Nat.add_mul]; omega
theorem mkRows_get (l : List (List Int)) (a : Int) (i : Nat) (hi : i < l.length) : rd_L1 (mkRows l a) (i : Int) = ramp (a + szRows (l.take i)) (rd_L1 l i).length := by
 have e : l = l.take i ++ l.getD i [] :: l.drop (i + 1) := by rw [← getD_drop l i _ hi, List.take_append_drop]
 have e2 : mkRows l a = mkRows (l.take i) a ++ mkRows (l.getD i [] :: l.drop (i + 1)) (a + szRows (l.take i)) := by rw [← mkRows_append, ← e]
 unfold rd_L1; rw [e2, Int.toNat_natCast, List.getD_eq_getElem?_getD, List.getElem?_append_right (by rw [mkRows_len, List.length_take]; omega), mkRows_len, List.length_take, Nat.min_eq_left zz1l, Nat.sub_self]; rfl
theorem heldIntSS_loop (l : List (List Int)) (hlen : l.length ≤ 1152921504606846976) (a : Int) (ha : 0 ≤ a) (hs : a + szRows l ≤ 1152921504606846976) (d : Nat) : ∀ (i : Nat), i ≤ l.length → l.length - i = d →
 Ev (fun k => laws_heldIntSS.l0 k (mkRows l a) (a + szRows (l.take i)) i) (a + szRows l) := by
 induction d with
 | zero =>
  intro i h1 hd; obtain rfl : i = l.length := by omega
  refine ⟨1, fun k hk => ?_⟩; dsimp only; obtain ⟨k, rfl⟩ : ∃ m, k = m + 1 := ⟨k - 1, zz1l⟩
  simp only [laws_heldIntSS.l0]; rw [if_neg (by rw [mkRows_len]; omega), List.take_of_length_le (Nat.le_refl _)]
 | succ d ih =>
  intro i h1 hd; obtain ⟨K, h⟩ := ih (i + 1) zz1l zz1l; dsimp only at h; have hb1 := szRows_take l i; have hb2 := szRows_take l (i + 1); have esz : szRows (l.take (i + 1)) = szRows (l.take i) + (rd_L1 l i).length := by
   rw [take_getD l i [] zz1l, szRows_append]; unfold rd_L1; simp [szRows]
  refine ⟨K + (rd_L1 l i).length + 2, fun k hk => ?_⟩; dsimp only; obtain ⟨k, rfl⟩ : ∃ m, k = m + 1 := ⟨k - 1, zz1l⟩
  simp only [laws_heldIntSS.l0]; rw [if_pos (by rw [mkRows_len]; omega), if_pos zz1l, mkRows_get l a i zz1l, heldIntS_eq _ zz1l _ zz1l zz1l k zz1l]; simp only [Option.bind_some]; rw [if_neg zz1l, show wrap64 ((i : Int) + 1) = ((i + 1 : Nat) : Int) by unfold wrap64; omega, show a + (szRows (l.take i) : Int) + ((rd_L1 l i).length : Int) = a + szRows (l.take (i + 1)) by rw [esz]; omega]; exact h k zz1l
theorem heldIntSS_ev (l : List (List Int)) (hlen : l.length ≤ 1152921504606846976) (a : Int) (ha : 0 ≤ a) (hs : a + szRows l ≤ 1152921504606846976) : Ev (fun k => laws_heldIntSS.f k (mkRows l a) a) (a + szRows l) := by
 obtain ⟨K, h⟩ := heldIntSS_loop l hlen a ha hs l.length 0 zz1l zz1l; dsimp only at h; rw [List.take_zero] at h; refine ⟨K, fun k hk => ?_⟩; dsimp only; have h2 := h k hk; simp only [szRows, Int.natCast_zero, Int.add_zero] at h2; unfold laws_heldIntSS.f; exact h2
set_option maxHeartbeats 4000000 in
set_option maxRecDepth 100000 in
theorem markIntSS_calls (P0_ : Nat → Prop) (u : Value) (l0 : List (List Int)) (a1 : Int) (w0 w : World) (hB : Below w0.heap.size w0 w) (ho0 : Kd.S (Kd.slice 3 (Kd.int .i64)) 23 w w0.heap.size P0_ u l0)
 (ha : 0 ≤ a1) (hs : a1 + szRows l0 ≤ 1152921504606846976) (hlen : l0.length ≤ 1152921504606846976) :
 Calls Tryz.prog 35 #[u, .int .i64 a1] w fun e w' => e = .returned (.int .i64 (a1 + szRows l0)) ∧ Kd.S (Kd.slice 3 (Kd.int .i64)) 23 w' w0.heap.size P0_ u (mkRows l0 a1) ∧ Below w0.heap.size w0 w' ∧ Kept w w' P0_ := by
 have HO := zA ho0; have HB := zA hB; have HW := zA hB.size; have HS := zA hs; have HLEN := zA hlen; clear ho0 hB hs; go_enter Tryz.func35, Tryz.ntmps35; go_wp2; go_loopg [1, 5] l0.length (fun gg s1 s5 wr => ∃ kk : Nat, kk ≤ l0.length ∧ l0.length - kk ≤ gg ∧ s5 = .int .i64 kk ∧ s1 = .int .i64 (a1 + szRows (l0.take kk)) ∧ Aside0 (Kd.S (Kd.slice 3 (Kd.int .i64)) 23 wr w0.heap.size P0_ u (mkRows (l0.take kk) a1 ++ l0.drop kk)) ∧ Aside0 (Below w0.heap.size w0 wr) ∧ Aside0 (Kept w wr P0_))
 case atStart => exact ⟨0, Nat.zero_le _, zz1l, rfl, by simp [szRows], ⟨by simpa [mkRows] using HO.out⟩, HB, ⟨Kept.refl _ _⟩⟩
 case round =>
  clear HO HB; obtain ⟨kk, hkk, hg, rfl, rfl, HO, HB, HK⟩ := hrel; have hb1 := szRows_take l0 kk; by_cases hlt : kk < l0.length
  · obtain ⟨y, hy⟩ : ∃ y, y = l0.getD kk [] := ⟨_, rfl⟩
    have ed := getD_drop l0 kk [] hlt; have et := take_getD l0 kk [] hlt; rw [← hy] at ed et; have esz : szRows (l0.take (kk + 1)) = szRows (l0.take kk) + y.length := by rw [et, szRows_append]; simp [szRows]
    have hb2 := szRows_take l0 (kk + 1); have emk : ∀ z, z = ramp (a1 + szRows (l0.take kk)) y.length → (mkRows (l0.take kk) a1 ++ l0.drop kk).set kk z = mkRows (l0.take (kk + 1)) a1 ++ l0.drop (kk + 1) := by
     rintro z rfl; rw [ed, set_mid _ _ _ _ _ (by rw [mkRows_len, List.length_take]; omega), et, mkRows_append]; simp [mkRows]
    have elen : (mkRows (l0.take kk) a1 ++ l0.drop kk).length = l0.length := by rw [List.length_append, mkRows_len, List.length_take, List.length_drop]; omega
    have eget : (mkRows (l0.take kk) a1 ++ l0.drop kk).getD kk [] = y := by
     rw [ed, List.getD_eq_getElem?_getD, List.getElem?_append_right (by rw [mkRows_len, List.length_take]; omega), mkRows_len, List.length_take, Nat.min_eq_left hkk, Nat.sub_self]; rfl
    have EM := zA emk; have ES := zA esz; have LN := zA elen; clear emk esz ed et hy; obtain ⟨xs, hxs⟩ : ∃ xs, xs = mkRows (l0.take kk) a1 ++ l0.drop kk := ⟨_, rfl⟩
    rw [← hxs] at HO EM LN eget; obtain ⟨go, co, eo, gb, gl, cl, HG⟩ := Kd.S_form HO.out (by rw [LN.out]; omega); subst eo; obtain ⟨oki, c, hcl, hM, hcc, hfr, hoki, hH⟩ := Kd.S_elem HO.out [] (kk : Int) zz1l (by rw [LN.out]; omega); rw [Int.toNat_natCast, eget] at hM; obtain ⟨v1, rfl, hR⟩ := hM; have hx0 : wr.cell? ⟨go, kk, none⟩ = some v1 := by have := hcc 0 _ rfl; simpa [Kd.slice] using this
    obtain ⟨s, hs⟩ : ∃ s : Int, s = a1 + szRows (l0.take kk) := ⟨_, rfl⟩
    rw [← hs] at EM; rw [← hs]; have hs0 : 0 ≤ s := by omega
    have hs1 : s ≤ 1152921504606846976 := by have := HS.out; omega
    have hyl : s + y.length ≤ 1152921504606846976 := by have := HS.out; have := ES.out; omega
    have hsz : xs.length = l0.length := LN.out; have hd : decide (kk < xs.length) = true := decide_eq_true zz1l; have hlt2 : kk < xs.length := by omega
    have hmx : xs.length ≤ 9223372036854775807 := by have := HLEN.out; omega
    have GB := zA gb; have HH := zA hH; have HR := zA hR; have OI := zA hoki; have L := zA hlt; have SV := zA hs; have EMM := EM; clear hcl hcc hfr hH hR hoki gb gl HG eget hs hlt hxs EM hsz; go_wp2_with (go_at_call 17; refine (markIntS_calls oki v1 y s w0 _ (by repeat (first | exact HB.out | apply below_drew | apply zC)) (by repeat (first | exact HR.out | apply zV | apply zU)) hs0 hyl).mono ?_; rintro e w' ⟨rfl, ho, hb, hk⟩; have NB := zA hb; have NO := zA ho; have NK := zA hk; clear ho hb hk)
    go_roundg (l0.length - (kk + 1))
    case measure => have := L.out; omega
    case rel =>
     refine ⟨kk + 1, zz1b L, zz1l, zz1j, ?_, ?_, NB, ?_⟩
     · rw [ES.out]; have := SV.out; congr 1; omega
     · have H2 := Kd.H_kept HH.out NK.out (fun k _ hno hs => hno hs); have hR1 := HR.out.1; have H3 := Kd.H_back H2 (x' := ramp s y.length) ⟨v1, rfl, (Kd.R_mono (Kd.R_tight rfl NO.out) (fun q hq => hR1 q hq.symm))⟩ (fun _ h => h); rw [Int.toNat_natCast, EMM.out _ rfl] at H3; exact ⟨H3⟩
     · exact ⟨(HK.out).then_ NK.out (fun k hk => .inl (OI.out k hk).1)⟩
  · have e : kk = l0.length := by omega
    obtain ⟨xs, hxs⟩ : ∃ xs, xs = mkRows (l0.take kk) a1 ++ l0.drop kk := ⟨_, rfl⟩
    have hfin : xs = mkRows l0 a1 := by rw [hxs, e, List.take_of_length_le (Nat.le_refl _), List.drop_of_length_le (Nat.le_refl _), List.append_nil]
    have hsum : szRows (l0.take kk) = szRows l0 := by rw [e, List.take_of_length_le (Nat.le_refl _)]
    have hln : xs.length = l0.length := by rw [hfin, mkRows_len]
    rw [← hxs] at HO; obtain ⟨A, c, eu⟩ := Kd.R_slice (Kd.S_R HO.out); subst eu; have hd : decide (kk < xs.length) = false := decide_eq_false zz1l; have F := zA hfin; have SU := zA hsum; clear hfin hxs hlt e hln hsum; go_wp2; go_ret; refine ⟨by rw [← SU.out]; rfl, by rw [← F.out]; exact HO.out, HB.out, HK.out⟩
end Go.Proofs.YtkocahlifffgjaaGreat.P
namespace Go.Proofs.YtkocahlifffgjaaGreat.P
open Go.RowKit Go.Proofs.YtkocahlifffgjaaGreatW.PrintWords
set_option linter.unusedVariables false
set_option linter.unusedSimpArgs false
theorem eqIntS_loop (l : List Int) (hl : l.length ≤ 35184372088832) (d : Nat) : ∀ (k i : Nat), i ≤ l.length → l.length - i = d → d < k → laws_eqIntS.l0 k l l i = some true := by
 induction d with
 | zero =>
  intro k i h1 hd hk; obtain ⟨k, rfl⟩ : ∃ m, k = m + 1 := ⟨k - 1, zz1l⟩
  simp only [laws_eqIntS.l0]; rw [if_neg zz1l]
 | succ d ih =>
  intro k i h1 hd hk; obtain ⟨k, rfl⟩ : ∃ m, k = m + 1 := ⟨k - 1, zz1l⟩
  simp only [laws_eqIntS.l0]; rw [if_pos zz1l, if_pos zz1l, if_pos zz1l, if_pos trivial]; have : wrap64 ((i : Int) + 1) = ((i + 1 : Nat) : Int) := by unfold wrap64; omega
  rw [this]; exact ih k (i + 1) zz1l zz1l zz1l
theorem eqIntS_eq (l : List Int) (hl : l.length ≤ 35184372088832) (k : Nat) (hk : l.length < k) : laws_eqIntS.f k l l = some true := by
 unfold laws_eqIntS.f; rw [if_pos rfl]; exact eqIntS_loop l hl l.length k 0 zz1l zz1l hk
theorem eqIntS_ev (l : List Int) (hl : l.length ≤ 35184372088832) : Ev (fun k => laws_eqIntS.f k l l) true := ⟨l.length + 1, fun k hk => eqIntS_eq l zz1l k zz1l⟩
theorem eqIntSS_loop (l : List (List Int)) (hlen : l.length ≤ 1048576) (hs : ∀ i : Nat, i < l.length → (rd_L1 l i).length ≤ 1048576) (d : Nat) : ∀ (i : Nat), i ≤ l.length → l.length - i = d → Ev (fun k => laws_eqIntSS.l0 k l l i) true := by
 induction d with
 | zero =>
  intro i h1 hd; refine ⟨1, fun k hk => ?_⟩; dsimp only; obtain ⟨k, rfl⟩ : ∃ m, k = m + 1 := ⟨k - 1, zz1l⟩
  simp only [laws_eqIntSS.l0]; rw [if_neg zz1l]
 | succ d ih =>
  intro i h1 hd; obtain ⟨K, h⟩ := ih (i + 1) zz1l zz1l; dsimp only at h; have hb := hs i zz1l; refine ⟨K + (rd_L1 l i).length + 2, fun k hk => ?_⟩; dsimp only; obtain ⟨k, rfl⟩ : ∃ m, k = m + 1 := ⟨k - 1, zz1l⟩
  simp only [laws_eqIntSS.l0]; rw [if_pos zz1l, if_pos zz1l, if_pos zz1l, eqIntS_eq _ zz1l k zz1l]; simp only [Option.bind_some]; rw [if_pos trivial, show wrap64 ((i : Int) + 1) = ((i + 1 : Nat) : Int) by unfold wrap64; omega]; exact h k zz1l
theorem eqIntSS_ev (l : List (List Int)) (hlen : l.length ≤ 1048576) (hs : ∀ i : Nat, i < l.length → (rd_L1 l i).length ≤ 1048576) : Ev (fun k => laws_eqIntSS.f k l l) true := by
 obtain ⟨K, h⟩ := eqIntSS_loop l hlen hs l.length 0 zz1l zz1l; dsimp only at h; refine ⟨K, fun k hk => ?_⟩; dsimp only; unfold laws_eqIntSS.f; rw [if_pos rfl]; exact h k hk
end Go.Proofs.YtkocahlifffgjaaGreat.P
namespace Go.Proofs.YtkocahlifffgjaaGreat.P
open Go.RowKit Go.Proofs.YtkocahlifffgjaaGreatW.PrintWords Go.Proofs.YtkocahlifffgjaaGreatW.PrintLast Go.Proofs.YtkocahlifffgjaaGreatW.PrintMore
attribute [local go_sem] max2_int min2_int max_two min_two max_three min_three max_four min_four
set_option linter.unusedVariables false
set_option linter.unusedSimpArgs false
def laws_toIntS.l0 : Nat → List Int → List Int → Int → Option (List Int)
 | 0, _, _, _ => none
 | k + 1, x0, x3, x4 => if x4 < (x0.length : Int) then (if 0 ≤ x4 then (if x4 < (x3.length : Int) then (laws_toIntS.l0 k x0 (x3.set (x4 : Int).toNat (rd x0 x4)) (wrap64 (x4 + 1))) else (none)) else (none)) else (some x3)
def laws_toIntS.f (k : Nat) (l0 : List Int) : Option (List Int) := if 0 ≤ (l0.length : Int) then (if ((l0.length : Int) : Int).toNat ≤ 35184372088832 then (laws_toIntS.l0 k l0 (List.replicate ((l0.length : Int) : Int).toNat 0) 0) else (none)) else (none)
set_option maxHeartbeats 8000000 in
set_option maxRecDepth 100000 in
theorem laws_toIntS.calls (k : Nat) (A0 : Option Addr) (c0 : Nat) (l0 : List Int) (r : List Int) (w : World) (dA : Kd.C (Kd.int .i64) w A0 l0.length l0) (dB : l0.length ≤ c0) (h : laws_toIntS.f k l0 = some r) :
 Calls Tryz.prog 10 #[.slice A0 l0.length c0] w fun e w' => ∃ eV : Value, e = .returned (eV) ∧ Kd.R (Kd.int .i64) 3 w' w.heap.size (fun _ => True) eV r ∧ Below w.heap.size w w' := by
 have dm := zA dA; have im := zA dB; clear dA dB; have HB := zA (Below.refl w.heap.size w); have H : (if 0 ≤ (l0.length : Int) then (if ((l0.length : Int) : Int).toNat ≤ 35184372088832 then (laws_toIntS.l0 k l0 (List.replicate ((l0.length : Int) : Int).toNat 0) 0) else (none)) else (none)) = some r := h; clear h; replace H := zIn H; obtain ⟨c2, H⟩ := H; have pb := eq_true c2; have pc : decide (0 ≤ (l0.length : Int)) = true := decide_eq_true c2; clear c2; replace H := zIn H; obtain ⟨c3, H⟩ := H; have cL := eq_true c3; have fp : decide (((l0.length : Int) : Int).toNat ≤ 35184372088832) = true := decide_eq_true c3; clear c3; obtain ⟨dx, e_y⟩ : ∃ y_ : List Int, y_ = (List.replicate ((l0.length : Int) : Int).toNat 0) := ⟨_, rfl⟩
 replace H : (laws_toIntS.l0 k l0 dx 0) = some r := zz05
 have eU := zA e_y; clear e_y; have H' := zA H; clear H; go_enter Tryz.func10, Tryz.ntmps10; go_wp2_with (first | ((with_reducible refine gate_dst (N := 7) rfl ?_); refine Kd.R_make (Kd.int .i64) _ 3 rfl (N := 7) rfl 23 _ _ rfl (l0.length : Int) rfl rfl Tryz.underlying23 (.int .i64 0) 8 info3 rfl zz1k zz1l 0 (ok := fun _ => True) (okp := fun _ => True) rfl (fun _ hk => hk) trivial (of_decide_eq_true zz1g) (Nat.le_trans (Nat.mul_le_mul_right _ (of_decide_eq_true zz1g : (l0.length : Int).toNat ≤ 35184372088832)) zz1l) (Below.refl _ _) (Nat.le_refl _) ?_; intro js w4 jt hb hg_ hnew_; clear hg_ hnew_; (first | rw [← eU.out] at jt | (simp only [Int.reduceToNat] at jt; rw [← eU.out] at jt)); have fA := zA (Kd.R_lower jt (zF (zz0u HB))); replace HB := zA (zG (zz0u HB) hb); clear hb jt)); go_loopg [4] k (fun kq v4 w' => ∃ (em : List Int) (b8 : Int), v4 = .int .i64 b8 ∧ Aside0 (laws_toIntS.l0 kq l0 em b8 = some r) ∧ Aside0 (kq ≤ k) ∧ Aside0 (Kd.R (Kd.int .i64) 3 w' w.heap.size (fun _ => True) js em) ∧ Aside0 (Below w.heap.size w w'))
 case atStart => exact ⟨(dx), (0), zz12, H', ⟨Nat.le_refl _⟩, ⟨zz0y fA⟩, ⟨zz0u HB⟩⟩
 case round =>
  clear H'; (try clear c1); (try clear c2); (try clear pb); (try clear pc); (try clear p2); (try clear c3); (try clear cL); (try clear fp); obtain ⟨em, b8, rfl, HA, bw, aA, HB⟩ := hrel; cases gk with
  | zero => exact absurd HA.out (by simp [laws_toIntS.l0])
  | succ k1 =>
   have H := HA.out; clear HA; simp only [laws_toIntS.l0] at H; by_cases c6 : b8 < (l0.length : Int)
   · rw [if_pos c6] at H; have dk := decide_eq_true c6; clear c6; replace H := zIn H; obtain ⟨c7, H⟩ := H; have dF : decide (0 ≤ b8) = true := decide_eq_true c7; clear c7; replace H := zIn H; obtain ⟨c8, H⟩ := H; have d3 : decide (b8 < (em.length : Int)) = true := decide_eq_true c8; clear c8; obtain ⟨ez, e_y⟩ : ∃ y_ : List Int, y_ = (em.set (b8 : Int).toNat (rd l0 b8)) := ⟨_, rfl⟩
     replace H : (laws_toIntS.l0 k1 l0 ez (wrap64 (b8 + 1))) = some r := zz05
     have f3 := zA e_y; clear e_y; have H' := zA H; clear H; have dy : 0 ≤ (b8 : Int) := of_decide_eq_true zz1g; have dz : b8 < (l0.length : Int) := of_decide_eq_true zz1g; obtain ⟨gP, f5, bS⟩ := Kd.at_int dm.out b8 dy dz; cases f5; replace bS := (HB.out.cell (World.block_lt_of_cell? w _ bS)).trans bS; replace dy := eq_true dy; replace dz := eq_true dz; have p9 : 0 ≤ (b8 : Int) := of_decide_eq_true zz1g; have q9 : (b8 : Int) < ((em.length : Int) : Int) := of_decide_eq_true zz1g; obtain ⟨go9, si, rC, sj, gl9, cl9, HG9⟩ := Kd.R_form aA.out zz1l; (first | cases rC | (injection rC with ea_ en_ ec_; (first | subst ea_ | (injection ea_ with ea_; subst ea_)); subst ec_; clear en_)); have GB9 := zA sj; have GG9 := zA HG9; clear sj gl9 HG9; obtain ⟨hx9_0, hf9_0⟩ := Kd.R_celln 0 aA.out (b8 : Int) p9 q9; replace p9 := eq_true p9; replace q9 := eq_true q9; have pd := Kd.R_putg aA.out (b8 : Int) (rd l0 b8); go_wp2_with (first | ((with_reducible refine gate_store (t := 3) (p := 20) rfl ?_); refine store_event (t := 3) (p := 20) (v := ?vo_w11) (w1 := (wr.setCell ⟨go9, (b8 : Int).toNat, none⟩ (.int .i64 (rd l0 b8)))) ?hg ?ho ?hn ?hr ?_; (case ho => rfl); (case hg => rfl); (case hn => rfl); (case hr => first | (go_simp; done) | (go_simp; rfl)); intro iH hw; have hg : wr.grownBy iH (some go9) := (by rw [hw]; exact pd.2); have hp_ : Kd.R (Kd.int .i64) 3 iH w.heap.size (fun _ => True) (.slice (some ⟨go9, 0, none⟩) em.length si) ez := (by rw [hw, f3.out]; exact pd.1); clear pd; replace aA := zA (hp_); replace HB := zA ((by rw [hw]; exact zE (HB.out) GB9.out : Below w.heap.size w iH)); clear hg hw hp_))
     go_roundg k1
     case measure => have := bw.out; omega
     case rel => exact ⟨(ez), (wrap64 (b8 + 1)), zz12, H', ⟨zz1b bw⟩, ⟨zz0y aA⟩, ⟨zz0u HB⟩⟩
   · rw [if_neg c6] at H; have dk := decide_eq_false c6; clear c6; obtain rfl := Option.some.inj H; go_wp2; go_ret; exact ⟨_, zz0v, zz0y aA, zz0u HB⟩
end Go.Proofs.YtkocahlifffgjaaGreat.P
namespace Go.Proofs.YtkocahlifffgjaaGreat.P
open Go.RowKit Go.Proofs.YtkocahlifffgjaaGreatW.PrintWords
set_option linter.unusedVariables false
set_option linter.unusedSimpArgs false
theorem toIntS_loop (l : List Int) (hl : l.length ≤ 35184372088832) (d : Nat) : ∀ (k i : Nat), i ≤ l.length → l.length - i = d → d < k →
 laws_toIntS.l0 k l (l.take i ++ List.replicate d 0) i = some l := by
 induction d with
 | zero =>
  intro k i h1 hd hk; obtain ⟨k, rfl⟩ : ∃ m, k = m + 1 := ⟨k - 1, zz1l⟩
  simp only [laws_toIntS.l0]; rw [if_neg zz1l]; rw [List.take_of_length_le zz1l]; simp
 | succ d ih =>
  intro k i h1 hd hk; obtain ⟨k, rfl⟩ : ∃ m, k = m + 1 := ⟨k - 1, zz1l⟩
  simp only [laws_toIntS.l0]; rw [if_pos zz1l, if_pos zz1l, if_pos (by simp; omega)]; have e1 : wrap64 ((i : Int) + 1) = ((i + 1 : Nat) : Int) := by unfold wrap64; omega
  have e2 : (l.take i ++ List.replicate (d + 1) 0).set (i : Int).toNat (rd l i) = l.take (i + 1) ++ List.replicate d 0 := by
   rw [rep_succ, Int.toNat_natCast, set_mid _ _ _ _ _ zz19, take_getD l i 0 zz1l]; simp [rd]
  rw [e1, e2]; exact ih k (i + 1) zz1l zz1l zz1l
theorem toIntS_eq (l : List Int) (hl : l.length ≤ 35184372088832) (k : Nat) (hk : l.length < k) : laws_toIntS.f k l = some l := by
 unfold laws_toIntS.f; rw [if_pos zz1l, if_pos zz1l, Int.toNat_natCast]; have := toIntS_loop l hl l.length k 0 zz1l zz1l hk; simpa using this
theorem toIntS_ev (l : List Int) (hl : l.length ≤ 1048576) : Ev (fun k => laws_toIntS.f k l) l := ⟨l.length + 1, fun k hk => toIntS_eq l zz1l k zz1l⟩
theorem szIntS_eq (l : List Int) (a : Int) (ha : a ≤ 1048576) (h0 : 0 ≤ a) (hl : l.length ≤ 9223372036854775807) : laws_szIntS.f l a = some (if a - l.length < 0 then -1 else a - l.length) := by
 unfold laws_szIntS.f; rw [w64 zz1l zz1l]; by_cases h : a - (l.length : Int) < 0
 · rw [if_pos h, if_pos h]
 · rw [if_neg h, if_neg h]
end Go.Proofs.YtkocahlifffgjaaGreat.P
namespace Go.Proofs.YtkocahlifffgjaaGreat.P
open Go.RowKit Go.Proofs.YtkocahlifffgjaaGreatW.PrintWords Go.Proofs.YtkocahlifffgjaaGreatW.PrintLast Go.Proofs.YtkocahlifffgjaaGreatW.PrintMore
attribute [local go_sem] max2_int min2_int max_two min_two max_three min_three max_four min_four
set_option linter.unusedVariables false
set_option linter.unusedSimpArgs false
def laws_toIntSS.l0 : Nat → List (List Int) → List (List Int) → Int → Option ((List (List Int)))
 | 0, _, _, _ => none
 | k + 1, x0, x3, x4 => if x4 < (x0.length : Int) then (if 0 ≤ x4 then ((laws_toIntS.f k (rd_L1 x0 x4)).bind fun da => (if x4 < (x3.length : Int) then (laws_toIntSS.l0 k x0 (x3.set (x4 : Int).toNat da) (wrap64 (x4 + 1))) else (none))) else (none)) else (some x3)
def laws_toIntSS.f (k : Nat) (l0 : List (List Int)) : Option ((List (List Int))) := if 0 ≤ (l0.length : Int) then (if ((l0.length : Int) : Int).toNat ≤ 11728124029610 then (laws_toIntSS.l0 k l0 (List.replicate ((l0.length : Int) : Int).toNat []) 0) else (none)) else (none)
set_option maxHeartbeats 8000000 in
set_option maxRecDepth 100000 in
theorem laws_toIntSS.calls (k : Nat) (A0 : Option Addr) (c0 : Nat) (l0 : List (List Int)) (r : List (List Int)) (w : World) (dA : Kd.C (Kd.slice 3 (Kd.int .i64)) w A0 l0.length l0) (dB : l0.length ≤ c0) (h : laws_toIntSS.f k l0 = some r) :
 Calls Tryz.prog 28 #[.slice A0 l0.length c0] w fun e w' => ∃ eV : Value, e = .returned (eV) ∧ Kd.S (Kd.slice 3 (Kd.int .i64)) 23 w' w.heap.size (fun _ => True) eV r ∧ Below w.heap.size w w' := by
 have dm := zA dA; have im := zA dB; clear dA dB; have HB := zA (Below.refl w.heap.size w); have H : (if 0 ≤ (l0.length : Int) then (if ((l0.length : Int) : Int).toNat ≤ 11728124029610 then (laws_toIntSS.l0 k l0 (List.replicate ((l0.length : Int) : Int).toNat []) 0) else (none)) else (none)) = some r := h; clear h; replace H := zIn H; obtain ⟨c2, H⟩ := H; have pb := eq_true c2; have pc : decide (0 ≤ (l0.length : Int)) = true := decide_eq_true c2; clear c2; replace H := zIn H; obtain ⟨c3, H⟩ := H; have cL := eq_true c3; have fp : decide (((l0.length : Int) : Int).toNat ≤ 11728124029610) = true := decide_eq_true c3; clear c3; obtain ⟨dx, e_y⟩ : ∃ y_ : List (List Int), y_ = (List.replicate ((l0.length : Int) : Int).toNat []) := ⟨_, rfl⟩
 replace H : (laws_toIntSS.l0 k l0 dx 0) = some r := zz05
 have eU := zA e_y; clear e_y; have H' := zA H; clear H; go_enter Tryz.func28, Tryz.ntmps28; go_wp2_with (first | ((with_reducible refine gate_dst (N := 7) rfl ?_); refine Kd.S_make (Kd.slice 3 (Kd.int .i64)) _ 23 rfl (N := 7) rfl 22 _ _ rfl (l0.length : Int) rfl rfl Tryz.underlying22 (.slice none 0 0) 24 info23 rfl zz1k zz1l [] (ok := fun _ => True) (okp := fun _ => True) ⟨_, rfl, Kd.R_nil _ _ _ _ _⟩ (fun _ hk => hk) trivial (of_decide_eq_true zz1g) (Nat.le_trans (Nat.mul_le_mul_right _ (of_decide_eq_true zz1g : (l0.length : Int).toNat ≤ 11728124029610)) zz1l) (Below.refl _ _) (Nat.le_refl _) ?_; intro js w4 jt hb hg_ hnew_; clear hg_ hnew_; (first | rw [← eU.out] at jt | (simp only [Int.reduceToNat] at jt; rw [← eU.out] at jt)); have fA := zA (Kd.S_lower jt (zF (zz0u HB))); replace HB := zA (zG (zz0u HB) hb); clear hb jt)); go_loopg [4] k (fun kq v4 w' => ∃ (em : List (List Int)) (b8 : Int), v4 = .int .i64 b8 ∧ Aside0 (laws_toIntSS.l0 kq l0 em b8 = some r) ∧ Aside0 (kq ≤ k) ∧ Aside0 (Kd.S (Kd.slice 3 (Kd.int .i64)) 23 w' w.heap.size (fun _ => True) js em) ∧ Aside0 (Below w.heap.size w w'))
 case atStart => exact ⟨(dx), (0), zz12, H', ⟨Nat.le_refl _⟩, ⟨zz0r fA⟩, ⟨zz0u HB⟩⟩
 case round =>
  clear H'; (try clear c2); (try clear pb); (try clear pc); (try clear p2); (try clear c3); (try clear cL); (try clear fp); obtain ⟨em, b8, rfl, HA, bw, aA, HB⟩ := hrel; cases gk with
  | zero => exact absurd HA.out (by simp [laws_toIntSS.l0])
  | succ k1 =>
   have H := HA.out; clear HA; simp only [laws_toIntSS.l0] at H; by_cases c6 : b8 < (l0.length : Int)
   · rw [if_pos c6] at H; have dk := decide_eq_true c6; clear c6; replace H := zIn H; obtain ⟨c7, H⟩ := H; have dF : decide (0 ≤ b8) = true := decide_eq_true c7; clear c7; replace H := Option.bind_eq_some_iff.mp H; obtain ⟨da, qx, H⟩ := H; have A8 := zA qx; clear qx; replace H := zIn H; obtain ⟨c9, H⟩ := H; have eW : decide (b8 < (em.length : Int)) = true := decide_eq_true c9; clear c9; obtain ⟨dV, e_y⟩ : ∃ y_ : List (List Int), y_ = (em.set (b8 : Int).toNat da) := ⟨_, rfl⟩
     replace H : (laws_toIntSS.l0 k1 l0 dV (wrap64 (b8 + 1))) = some r := zz05
     have hq := zA e_y; clear e_y; have H' := zA H; clear H; have dy : 0 ≤ (b8 : Int) := of_decide_eq_true zz1g; have dz : b8 < (l0.length : Int) := of_decide_eq_true zz1g; obtain ⟨gP, gG, gH, f5, bS, cC, cD⟩ := at_L1 dm.out b8 dy dz; cases f5; replace bS := (HB.out.cell (World.block_lt_of_cell? w _ bS)).trans bS; have dt := zA cD; have fM := zA cC; clear cD cC; replace dy := eq_true dy; replace dz := eq_true dz; go_wp2_with (first | ((with_reducible refine gate_callee (f := 10) rfl ?_); refine goesL_ (some 20) rfl rfl Tryz.func10 zz1h rfl #[.slice gG (rd_L1 l0 b8).length gH] rfl zz0h ?_; (with_reducible refine (laws_toIntS.calls k1 _ _ (rd_L1 l0 b8) da _ ?al ?am A8.out).mono ?_); (case al => exact (zz0x dt HB)); (case am => exact fM.out); rintro e iH ⟨ju, rfl, cd, hb⟩; refine ⟨_, rfl, ?_⟩; replace aA := zA (Kd.S_elder' (zz0r aA) (Kd.R_base cd) hb); have dn := zA (Kd.R_lower cd (zF (zz0u HB))); replace HB := zA (zG (zz0u HB) hb); (try clear hb); (try clear hb2); (try clear hk); (try clear hi); (try clear cd); obtain ⟨kQ, kR, eo106⟩ := Kd.R_slice dn.out; subst eo106; have jp : 0 ≤ (b8 : Int) := of_decide_eq_true zz1g; have jq : (b8 : Int) < ((em.length : Int) : Int) := of_decide_eq_true zz1g; obtain ⟨go10, ke, lK, qy, gl10, cl10, HG10⟩ := Kd.S_form aA.out zz1l; (first | cases lK | (injection lK with ea_ en_ ec_; (first | subst ea_ | (injection ea_ with ea_; subst ea_)); subst ec_; clear en_)); have GB10 := zA qy; have GG10 := zA HG10; clear qy gl10 HG10; obtain ⟨_, ce10, hcl10, qz, oa, hfr10, _, _⟩ := Kd.S_elem aA.out [] (b8 : Int) jp jq; obtain ⟨ve10_0, rfl, ge10_0⟩ := qz; have hx10_0 := oa 0 _ rfl; have hf10_0 := hfr10 0; (try simp only [show ((Kd.slice 3 (Kd.int .i64))).sz = 1 from rfl, Nat.mul_one, Nat.add_zero] at hx10_0); (try simp only [show ((Kd.slice 3 (Kd.int .i64))).sz = 1 from rfl, Nat.mul_one, Nat.add_zero] at hf10_0); clear hcl10 oa hfr10; (try clear qz); replace jp := eq_true jp; replace jq := eq_true jq; have n_ := zA (Kd.S_mono (ok' := (fun k_ => some k_ ≠ ((.slice kQ da.length kR) : Value).ownBlock)) aA.out (fun k_ hk => hk.2)); clear aA; have aA := n_; clear n_; have HX12 := zA (show Kd.S (Kd.slice 3 (Kd.int .i64)) 23 iH w.heap.size (fun k_ => ((fun _ => True)) k_ ∧ ¬ ((fun k_ => some k_ = ((.slice kQ da.length kR) : Value).ownBlock)) k_) (.slice (some ⟨go10, 0, none⟩) em.length ke) em from (by (with_reducible repeat (first | apply Kd.S_alloc | apply Kd.S_drewN | apply Kd.S_drew)); exact Kd.S_mono aA.out (fun k_ hk => ⟨trivial, fun e_ => hk e_⟩))); obtain ⟨oki12, ce12, hcl12, qA, ob, hfr12, hoki12, hH12⟩ := Kd.S_elem HX12.out [] (b8 : Int) (of_decide_eq_true zz1g) (by have h_ : (b8 : Int) < ((em.length : Int) : Int) := of_decide_eq_true zz1g; first | exact h_ | (have e_ := (Kd.S_reads' aA.out).1; omega) | simpa using h_); obtain ⟨ve12_0, rfl, ge12_0⟩ := qA; have nz := Kd.S_seg hH12 (of_decide_eq_true zz1g) (by have h_ : (b8 : Int) < ((em.length : Int) : Int) := of_decide_eq_true zz1g; first | exact h_ | (have e_ := (Kd.S_reads' aA.out).1; omega) | simpa using h_) (seg := [(.slice kQ da.length kR)]) (j := 0) (show 1 ≤ 1 from by decide) (x' := da) (Kd.M_row (Kd.R_mono (Kd.R_tight rfl (Kd.R_mono (ok' := fun k_ => ((fun _ => True)) k_ ∧ k_ ≠ go10) (Kd.R_apart' (dn.out) (Kd.S_typed aA.out) zz1k) (fun k_ hk => ⟨trivial, fun e_ => (hk.2) zz1f⟩))) (fun _ h_ => Or.inr (h_)))) (fun _ hk => hk) (fun k_ hk_ => ((Kd.R_mono (ok' := fun k_ => ((fun _ => True)) k_ ∧ k_ ≠ go10) (Kd.R_apart' (dn.out) (Kd.S_typed aA.out) zz1k) (fun k_ hk => ⟨trivial, fun e_ => (hk.2) zz1f⟩))).1 k_ hk_.symm); have hx12_0 := ob 0 _ rfl; (try simp only [show ((Kd.slice 3 (Kd.int .i64))).sz = 1 from rfl, Nat.mul_one, Nat.add_zero] at hx12_0); have hf12_0 := hfr12 0; (try simp only [show ((Kd.slice 3 (Kd.int .i64))).sz = 1 from rfl, Nat.mul_one, Nat.add_zero] at hf12_0); clear hcl12 ob hfr12 hoki12 hH12; (try clear qA); (try simp only [show ((Kd.slice 3 (Kd.int .i64))).sz = 1 from rfl, Nat.mul_one, Nat.add_zero] at nz)) | ((with_reducible refine gate_store (t := 23) (p := 21) rfl ?_); refine store_event (t := 23) (p := 21) (v := ?vo_w13) (w1 := (iH.setCell ⟨go10, (b8 : Int).toNat, none⟩ ((.slice kQ da.length kR)))) ?hg ?ho ?hn ?hr ?_; (case ho => rfl); (case hg => rfl); (case hn => rfl); (case hr => first | (go_simp; done) | (go_simp; rfl)); intro nw hw; have hg : iH.grownBy nw (some go10) := (by rw [hw]; exact nz.2); have hp_ : Kd.S (Kd.slice 3 (Kd.int .i64)) 23 nw w.heap.size (fun _ => True) (.slice (some ⟨go10, 0, none⟩) em.length ke) dV := (by rw [hw, hq.out]; exact nz.1); clear nz; replace aA := zA (hp_); replace HB := zA ((by rw [hw]; exact zE (HB.out) GB10.out : Below w.heap.size w nw)); clear dn; clear hg hw hp_))
     go_roundg k1
     case measure => have := bw.out; omega
     case rel => exact ⟨(dV), (wrap64 (b8 + 1)), zz12, H', ⟨zz1b bw⟩, ⟨zz0r aA⟩, ⟨zz0u HB⟩⟩
   · rw [if_neg c6] at H; have dk := decide_eq_false c6; clear c6; obtain rfl := Option.some.inj H; go_wp2; go_ret; exact ⟨_, zz0v, zz0r aA, zz0u HB⟩
end Go.Proofs.YtkocahlifffgjaaGreat.P
namespace Go.Proofs.YtkocahlifffgjaaGreat.P
open Go.RowKit Go.Proofs.YtkocahlifffgjaaGreatW.PrintWords
set_option linter.unusedVariables false
set_option linter.unusedSimpArgs false
def smallL (l : List (List Int)) : Prop := l.length ≤ 1048576 ∧ ∀ i : Nat, i < l.length → (rd_L1 l i).length ≤ 1048576
theorem szIntSS_loop (l : List (List Int)) (hl : l.length ≤ 9223372036854775807) (hr : ∀ i : Nat, i < l.length → (rd_L1 l i).length ≤ 9223372036854775807) (d : Nat) : ∀ (i : Nat) (a : Int), 0 ≤ a → a ≤ 1048576 → i ≤ l.length → l.length - i = d →
 ∃ t, Ev (fun k => laws_szIntSS.l0 k l a i) t ∧ t ≤ 1048576 ∧ (0 ≤ t → ∀ j : Nat, i ≤ j → j < l.length → (rd_L1 l j).length ≤ 1048576) := by
 induction d with
 | zero =>
  intro i a h0 h1 h2 hd; refine ⟨a, ⟨1, fun k hk => ?_⟩, h1, fun _ j h3 h4 => by omega⟩; dsimp only; obtain ⟨k, rfl⟩ : ∃ m, k = m + 1 := ⟨k - 1, zz1l⟩
  simp only [laws_szIntSS.l0]; rw [if_neg zz1l]
 | succ d ih =>
  intro i a h0 h1 h2 hd; have hi : i < l.length := by omega
  have hz := szIntS_eq (rd_L1 l i) a h1 h0 (hr i hi); by_cases hs : a - ((rd_L1 l i).length : Int) < 0
  · rw [if_pos hs] at hz; refine ⟨-1, ⟨1, fun k hk => ?_⟩, zz1l, fun h => by omega⟩; dsimp only; obtain ⟨k, rfl⟩ : ∃ m, k = m + 1 := ⟨k - 1, zz1l⟩
    simp only [laws_szIntSS.l0]; rw [if_pos zz1l, if_pos zz1l, hz]; rfl
  · rw [if_neg hs] at hz; obtain ⟨t, ⟨K, ht⟩, hle, hsm⟩ := ih (i + 1) (a - (rd_L1 l i).length) zz1l zz1l zz1l zz1l; dsimp only at ht; refine ⟨t, ⟨K + 1, fun k hk => ?_⟩, hle, fun h j h3 h4 => ?_⟩
    · dsimp only; obtain ⟨k, rfl⟩ : ∃ m, k = m + 1 := ⟨k - 1, zz1l⟩
      simp only [laws_szIntSS.l0]; rw [if_pos zz1l, if_pos zz1l, hz]; simp only [Option.bind_some]; rw [if_neg hs, w64 zz1l zz1l]; exact ht k zz1l
    · by_cases e : j = i
      · subst e; omega
      · exact hsm h j zz1l h4
theorem szIntSS_fr (l : List (List Int)) (hl : l.length ≤ 9223372036854775807) (hr : ∀ i : Nat, i < l.length → (rd_L1 l i).length ≤ 9223372036854775807) (a : Int) (ha : 0 ≤ a) (ha2 : a ≤ 1048576) :
 ∃ t, Ev (fun k => laws_szIntSS.f k l a) t ∧ t ≤ 1048576 ∧ (0 ≤ t → smallL l) := by
 by_cases hs : a - l.length < 0
 · refine ⟨-1, ⟨0, fun k hk => ?_⟩, zz1l, fun h => by omega⟩; dsimp only; unfold laws_szIntSS.f; rw [w64 zz1l zz1l, if_pos hs]
 · obtain ⟨t, ⟨K, ht⟩, hle, hsm⟩ := szIntSS_loop l hl hr l.length 0 (a - l.length) zz1l zz1l zz1l zz1l; dsimp only at ht; refine ⟨t, ⟨K, fun k hk => ?_⟩, hle, fun h => ⟨zz1l, fun j hj => hsm h j zz1l hj⟩⟩; dsimp only; unfold laws_szIntSS.f; rw [w64 zz1l zz1l, if_neg hs]; exact ht k hk
def fitL (l : List (List Int)) : Prop := l.length ≤ 9223372036854775807 ∧ ∀ i : Nat, i < l.length → (rd_L1 l i).length ≤ 9223372036854775807
theorem reads_fitL {w : World} {A : Option Addr} {l : List (List Int)} (h : Kd.C (Kd.slice 3 (Kd.int .i64)) w A l.length l) : fitL l := by
 refine ⟨h.2.1, fun i hi => ?_⟩; obtain ⟨ad, A1, c1, _, _, _, hC⟩ := at_L1 h (i : Int) zz1l zz1l; exact hC.2.1
theorem toIntSS_loop (l : List (List Int)) (hs : smallL l) (d : Nat) : ∀ (i : Nat), i ≤ l.length → l.length - i = d → Ev (fun k => laws_toIntSS.l0 k l (l.take i ++ List.replicate d []) i) l := by
 induction d with
 | zero =>
  intro i h1 hd; refine ⟨1, fun k hk => ?_⟩; dsimp only; obtain ⟨k, rfl⟩ : ∃ m, k = m + 1 := ⟨k - 1, zz1l⟩
  simp only [laws_toIntSS.l0]; rw [if_neg zz1l]; rw [List.take_of_length_le zz1l]; simp
 | succ d ih =>
  intro i h1 hd; have hb := hs.1; obtain ⟨K1, ht⟩ := toIntS_ev _ (hs.2 i zz1l); dsimp only at ht; obtain ⟨K2, hi⟩ := ih (i + 1) zz1l zz1l; dsimp only at hi; refine ⟨K1 + K2 + 1, fun k hk => ?_⟩; dsimp only; obtain ⟨k, rfl⟩ : ∃ m, k = m + 1 := ⟨k - 1, zz1l⟩
  simp only [laws_toIntSS.l0]; rw [if_pos zz1l, if_pos zz1l, ht k zz1l]; simp only [Option.bind_some]; rw [if_pos (by simp; omega)]; have e1 : wrap64 ((i : Int) + 1) = ((i + 1 : Nat) : Int) := by unfold wrap64; omega
  have e2 : (l.take i ++ List.replicate (d + 1) []).set (i : Int).toNat (rd_L1 l i) = l.take (i + 1) ++ List.replicate d [] := by
   rw [rep_succ, Int.toNat_natCast, set_mid _ _ _ _ _ zz19, take_getD l i [] zz1l]; simp [rd_L1]
  rw [e1, e2]; exact hi k zz1l
theorem toIntSS_ev (l : List (List Int)) (hs : smallL l) : Ev (fun k => laws_toIntSS.f k l) l := by
 obtain ⟨K, h⟩ := toIntSS_loop l hs l.length 0 zz1l zz1l; dsimp only at h; have hb := hs.1; refine ⟨K, fun k hk => ?_⟩; dsimp only; unfold laws_toIntSS.f; rw [if_pos zz1l, if_pos zz1l, Int.toNat_natCast]; have := h k hk; rw [List.take_zero, List.nil_append] at this; exact this
end Go.Proofs.YtkocahlifffgjaaGreat.P
namespace Go.Proofs.YtkocahlifffgjaaGreat.P
open Go.RowKit Go.Proofs.YtkocahlifffgjaaGreatW.PrintWords Go.Proofs.YtkocahlifffgjaaGreatW.PrintLast Go.Proofs.YtkocahlifffgjaaGreatW.PrintMore
attribute [local go_sem] max2_int min2_int max_two min_two max_three min_three max_four min_four
set_option linter.unusedVariables false
set_option linter.unusedSimpArgs false
def laws_toBinary.f (k : Nat) (af : Int) (aj : Int) (ab : List (List Int)) (ae : List (List Int)) (ai : List Int) (ag : List (List Int)) : Option (Int × Int × (List (List Int)) × (List (List Int)) × List Int × (List (List Int))) := (laws_toIntSS.f k ab).bind fun aZ => ((laws_toIntSS.f k ae).bind fun cq => ((laws_toIntS.f k ai).bind fun cz => ((laws_toIntSS.f k ag).bind fun d4 => (some (af, aj, aZ, cq, cz, d4)))))
set_option maxHeartbeats 8000000 in
set_option maxRecDepth 100000 in
theorem laws_toBinary.apart (k : Nat) (af : Int) (aj : Int) (az : Option Addr) (aq : Nat) (ab : List (List Int)) (ay : Option Addr) (av : Nat) (ae : List (List Int)) (ar : Option Addr) (au : Nat) (ai : List Int) (aw : Option Addr) (ax : Nat) (ag : List (List Int)) (r1 : Int) (r2 : Int) (r3 : List (List Int)) (r4 : List (List Int)) (r5 : List Int) (r6 : List (List Int)) (w : World) (bD : Kd.C (Kd.slice 3 (Kd.int .i64)) w az ab.length ab) (bE : ab.length ≤ aq) (bF : Kd.C (Kd.slice 3 (Kd.int .i64)) w ay ae.length ae) (bG : ae.length ≤ av) (bH : Kd.C (Kd.int .i64) w ar ai.length ai) (bI : ai.length ≤ au) (bJ : Kd.C (Kd.slice 3 (Kd.int .i64)) w aw ag.length ag) (bK : ag.length ≤ ax) (h : laws_toBinary.f k af aj ab ae ai ag = some (r1, r2, r3, r4, r5, r6)) :
 Calls Tryz.prog 8 #[.agg #[.int .i64 af, .int .i64 aj, .slice az ab.length aq, .slice ay ae.length av, .slice ar ai.length au, .slice aw ag.length ax]] w fun e w' => ∃ (pe pf oc pg : Value) (m0 m1 m2 m3 m4 : Nat), e = .returned (.agg #[.int .i64 r1, .int .i64 r2, pe, pf, oc, pg]) ∧ (w.heap.size ≤ m0 ∧ m0 ≤ m1 ∧ m1 ≤ m2 ∧ m2 ≤ m3 ∧ m3 ≤ m4 ∧ m4 ≤ w'.heap.size) ∧ Kd.S (Kd.slice 3 (Kd.int .i64)) 23 w' w.heap.size (fun q_ => m0 ≤ q_ ∧ q_ < m1) pe r3 ∧ Kd.S (Kd.slice 3 (Kd.int .i64)) 23 w' w.heap.size (fun q_ => m1 ≤ q_ ∧ q_ < m2) pf r4 ∧ Kd.R (Kd.int .i64) 3 w' w.heap.size (fun q_ => m2 ≤ q_ ∧ q_ < m3) oc r5 ∧ Kd.S (Kd.slice 3 (Kd.int .i64)) 23 w' w.heap.size (fun q_ => m3 ≤ q_ ∧ q_ < m4) pg r6 ∧ Below w.heap.size w w' := by
 have hu25 := Tryz.underlying25; have hu32 := Tryz.underlying32; have bq := zA bD; have bL := zA bE; clear bD bE; have bu := zA bF; have bO := zA bG; clear bF bG; have bP := zA bH; have bQ := zA bI; clear bH bI; have bR := zA bJ; have bV := zA bK; clear bJ bK; have HB := zA (Below.refl w.heap.size w); have H : ((laws_toIntSS.f k ab).bind fun aZ => ((laws_toIntSS.f k ae).bind fun cq => ((laws_toIntS.f k ai).bind fun cz => ((laws_toIntSS.f k ag).bind fun d4 => (some (af, aj, aZ, cq, cz, d4)))))) = some (r1, r2, r3, r4, r5, r6) := h; clear h; replace H := Option.bind_eq_some_iff.mp H; obtain ⟨aZ, me, H⟩ := H; replace H : ((laws_toIntSS.f k ae).bind fun cq => ((laws_toIntS.f k ai).bind fun cz => ((laws_toIntSS.f k ag).bind fun d4 => (some (af, aj, aZ, cq, cz, d4))))) = some (r1, r2, r3, r4, r5, r6) := H; have A2 := zA me; clear me; replace H := Option.bind_eq_some_iff.mp H; obtain ⟨cq, f4, H⟩ := H; replace H : ((laws_toIntS.f k ai).bind fun cz => ((laws_toIntSS.f k ag).bind fun d4 => (some (af, aj, aZ, cq, cz, d4)))) = some (r1, r2, r3, r4, r5, r6) := H; have A3 := zA f4; clear f4; replace H := Option.bind_eq_some_iff.mp H; obtain ⟨cz, ik, H⟩ := H; replace H : ((laws_toIntSS.f k ag).bind fun d4 => (some (af, aj, aZ, cq, cz, d4))) = some (r1, r2, r3, r4, r5, r6) := H; have A4 := zA ik; clear ik; replace H := Option.bind_eq_some_iff.mp H; obtain ⟨d4, kP, H⟩ := H; replace H : (some (af, aj, aZ, cq, cz, d4)) = some (r1, r2, r3, r4, r5, r6) := H; have A5 := zA kP; clear kP; simp only [Option.some.injEq, Prod.mk.injEq] at H; obtain ⟨rfl, rfl, rfl, rfl, rfl, rfl⟩ := H; go_enter Tryz.func8, Tryz.ntmps8; go_wp2_with (first | ((with_reducible refine gate_dst (N := 1) rfl ?_); refine box_event ?hg (N := 1) ?hd (cs := #[.int .i64 af, .int .i64 aj, .slice az ab.length aq, .slice ay ae.length av, .slice ar ai.length au, .slice aw ag.length ax]) (t := 25) ?hr ?_; (case hd => rfl); (case hg => rfl); (case hr => first | (go_simp; done) | (go_simp; rfl)); intro ad hg w6 hbox hb; have hs := zA (zG (zz0u HB) hb); have ht := zA (hbox); have hu := zA ((by rw [hg]; exact (zF (zz0u HB)) : w.heap.size ≤ ad)); have hv := zA ((by rw [hg]; exact (zF (zz0u HB)) : w.heap.size ≤ ad)); clear HB; have HB := hs; have aa := ht; have b0 := hu; have ac := hv; clear hs ht hu hv; clear hb hbox hg) | ((with_reducible refine gate_dst (N := 2) rfl ?_); refine box_event ?hg (N := 2) ?hd (cs := #[.int .i64 0, .int .i64 0, .slice none 0 0, .slice none 0 0, .slice none 0 0, .slice none 0 0]) (t := 32) ?hr ?_; (case hd => rfl); (case hg => rfl); (case hr => first | (go_simp; done) | (go_simp; rfl)); intro ak hg w7 hbox hb; have hs := zA (zM (g := ad) (o := .cells #[.int .i64 af, .int .i64 aj, .slice az ab.length aq, .slice ay ae.length av, .slice ar ai.length au, .slice aw ag.length ax] 25 (0, 0)) (zz0w aa) hb); have ht := zA (zG (zz0l HB ac) hb); have hu := zA (hbox); have hv := zA ((by rw [hg]; exact (zF (zz0l HB ac)) : w.heap.size ≤ ak)); have jv := zA ((by rw [hg]; exact (zF (zz0l HB ac)) : w.heap.size ≤ ak)); have kS := zA ((by rw [hg]; exact Nat.ne_of_lt (blk_lt (g := ad) (o := .cells #[.int .i64 af, .int .i64 aj, .slice az ab.length aq, .slice ay ae.length av, .slice ar ai.length au, .slice aw ag.length ax] 25 (0, 0)) (zz0w aa)) : ad ≠ ak)); have mf := zA ((by rw [hg]; exact Nat.ne_of_gt (blk_lt (g := ad) (o := .cells #[.int .i64 af, .int .i64 aj, .slice az ab.length aq, .slice ay ae.length av, .slice ar ai.length au, .slice aw ag.length ax] 25 (0, 0)) (zz0w aa)) : ak ≠ ad)); clear aa; clear HB; have aa := hs; have HB := ht; have ah := hu; have db := hv; have ap := jv; have aT := kS; have aU := mf; clear hs ht hu hv jv kS mf; clear hb hbox hg) | ((with_reducible refine gate_dst (N := 3) rfl ?_); refine box_event ?hg (N := 3) ?hd (cs := #[.int .i64 0, .int .i64 0, .slice none 0 0, .slice none 0 0, .slice none 0 0, .slice none 0 0]) (t := 32) ?hr ?_; (case hd => rfl); (case hg => rfl); (case hr => first | (go_simp; done) | (go_simp; rfl)); intro br hg w8 hbox hb; have hs := zA (zM (g := ad) (o := .cells #[.int .i64 af, .int .i64 aj, .slice az ab.length aq, .slice ay ae.length av, .slice ar ai.length au, .slice aw ag.length ax] 25 (0, 0)) (zz0w aa) hb); have ht := zA (zM (g := ak) (o := .cells #[.int .i64 0, .int .i64 0, .slice none 0 0, .slice none 0 0, .slice none 0 0, .slice none 0 0] 32 (0, 0)) (zz0w ah) hb); have hu := zA (zG (zz0i HB ac ap) hb); have hv := zA (hbox); have jv := zA ((by rw [hg]; exact (zF (zz0i HB ac ap)) : w.heap.size ≤ br)); have kS := zA ((by rw [hg]; exact (zF (zz0i HB ac ap)) : w.heap.size ≤ br)); have mf := zA ((by rw [hg]; exact Nat.ne_of_lt (blk_lt (g := ad) (o := .cells #[.int .i64 af, .int .i64 aj, .slice az ab.length aq, .slice ay ae.length av, .slice ar ai.length au, .slice aw ag.length ax] 25 (0, 0)) (zz0w aa)) : ad ≠ br)); have qB := zA ((by rw [hg]; exact Nat.ne_of_gt (blk_lt (g := ad) (o := .cells #[.int .i64 af, .int .i64 aj, .slice az ab.length aq, .slice ay ae.length av, .slice ar ai.length au, .slice aw ag.length ax] 25 (0, 0)) (zz0w aa)) : br ≠ ad)); have sk := zA ((by rw [hg]; exact Nat.ne_of_lt (blk_lt (g := ak) (o := .cells #[.int .i64 0, .int .i64 0, .slice none 0 0, .slice none 0 0, .slice none 0 0, .slice none 0 0] 32 (0, 0)) (zz0w ah)) : ak ≠ br)); have sl := zA ((by rw [hg]; exact Nat.ne_of_gt (blk_lt (g := ak) (o := .cells #[.int .i64 0, .int .i64 0, .slice none 0 0, .slice none 0 0, .slice none 0 0, .slice none 0 0] 32 (0, 0)) (zz0w ah)) : br ≠ ak)); clear aa; clear ah; clear HB; have aa := hs; have ah := ht; have HB := hu; have aY := hv; have GW103 := jv; have eX := kS; have ew := mf; have NB103_101 := qB; have dW := sk; have NB103_102 := sl; clear hs ht hu hv jv kS mf qB sk sl; clear hb hbox hg; have hnb9 := aT.out; have hnc9 := aU.out; have hnb10 := ew.out; have hnc10 := NB103_101.out; have iI : w8.cell? ⟨ad, 0, none⟩ = some (.int .i64 af) := (zK aa.out 0).trans rfl; have iJ : w8.cell? ⟨ad, 1, none⟩ = some (.int .i64 aj) := (zK aa.out 1).trans rfl; have iK : w8.cell? ⟨ad, 2, none⟩ = some (.slice az ab.length aq) := (zK aa.out 2).trans rfl; have iL : w8.cell? ⟨ad, 3, none⟩ = some (.slice ay ae.length av) := (zK aa.out 3).trans rfl; have iM : w8.cell? ⟨ad, 4, none⟩ = some (.slice ar ai.length au) := (zK aa.out 4).trans rfl; have iN : w8.cell? ⟨ad, 5, none⟩ = some (.slice aw ag.length ax) := (zK aa.out 5).trans rfl; have hnb12 := NB103_102.out; have hnc12 := dW.out; have kT : w8.cell? ⟨br, 0, none⟩ = some (.int .i64 0) := (zK aY.out 0).trans rfl; have kU : w8.cell? ⟨br, 1, none⟩ = some (.int .i64 0) := (zK aY.out 1).trans rfl; have hcz13_2 : w8.cell? ⟨br, 2, none⟩ = some (.slice none 0 0) := (zK aY.out 2).trans rfl; have hcz13_3 : w8.cell? ⟨br, 3, none⟩ = some (.slice none 0 0) := (zK aY.out 3).trans rfl; have hcz13_4 : w8.cell? ⟨br, 4, none⟩ = some (.slice none 0 0) := (zK aY.out 4).trans rfl; have hcz13_5 : w8.cell? ⟨br, 5, none⟩ = some (.slice none 0 0) := (zK aY.out 5).trans rfl; have hfz13_0 := zL aY.out 0; have hfz13_1 := zL aY.out 1; have hfz13_2 := zL aY.out 2; have hfz13_3 := zL aY.out 3; have hfz13_4 := zL aY.out 4; have hfz13_5 := zL aY.out 5) | ((with_reducible refine gate_callee (f := 28) rfl ?_); refine goesL_ (some 12) rfl rfl Tryz.func28 zz1h rfl #[.slice az ab.length aq] rfl zz0h ?_; (with_reducible refine (laws_toIntSS.calls k _ _ ab aZ _ ?al ?am A2.out).mono ?_); (case al => exact zS bq.out (zz0e HB ac ap eX)); (case am => exact bL.out); rintro e g0 ⟨mg, rfl, cd, hb⟩; refine ⟨_, rfl, ?_⟩;have Z0_ := zA (show w.heap.size ≤ w8.heap.size from zF HB.out);  have hsz_ := hb.size; (try simp at hsz_); have Z1_ := zA (show w8.heap.size ≤ g0.heap.size by omega); clear hsz_; replace cd := Kd.S_mono (ok' := fun q_ => w8.heap.size ≤ q_ ∧ q_ < g0.heap.size) (Kd.S_bound cd) (fun q_ h_ => ⟨zz14, h_.2.2.1⟩); have hs := zA (Kd.S_lower cd (zF (zz0e HB ac ap eX))); have ht := zA (zM (g := ad) (o := .cells #[.int .i64 af, .int .i64 aj, .slice az ab.length aq, .slice ay ae.length av, .slice ar ai.length au, .slice aw ag.length ax] 25 (0, 0)) (zz04 ew aa) hb); have hu := zA (zM (g := ak) (o := .cells #[.int .i64 0, .int .i64 0, .slice none 0 0, .slice none 0 0, .slice none 0 0, .slice none 0 0] 32 (0, 0)) (zz04 dW ah) hb); have hv := zA (zM (g := br) (o := .cells #[.int .i64 af, .int .i64 aj, .slice none 0 0, .slice none 0 0, .slice none 0 0, .slice none 0 0] 32 (0, 0)) (by (with_reducible repeat (first | refine zI ?_ _ | refine zJ ?_ | refine zH ?_ _)); refine zO (cs := #[.int .i64 af, .int .i64 0, .slice none 0 0, .slice none 0 0, .slice none 0 0, .slice none 0 0]) ?_ 1 _ rfl; (with_reducible repeat (first | refine zI ?_ _ | refine zJ ?_ | refine zH ?_ _)); refine zO (cs := #[.int .i64 0, .int .i64 0, .slice none 0 0, .slice none 0 0, .slice none 0 0, .slice none 0 0]) ?_ 0 _ rfl; (with_reducible repeat (first | refine zI ?_ _ | refine zJ ?_ | refine zH ?_ _)); exact aY.out) hb); have jv := zA (zG (zz0e HB ac ap eX) hb); clear aa; clear ah; clear aY; clear HB; have cQ := hs; have aa := ht; have ah := hu; have aY := hv; have HB := jv; clear hs ht hu hv jv; (try clear hb); (try clear hb2); (try clear hk); (try clear hi); (try clear cd); obtain ⟨eY, eZ, ph⟩ := Kd.S_slice cQ.out; subst ph; have g6 : g0.cell? ⟨br, 0, none⟩ = some (.int .i64 af) := (zK aY.out 0).trans rfl; have g7 : g0.cell? ⟨br, 1, none⟩ = some (.int .i64 aj) := (zK aY.out 1).trans rfl; have g8 : g0.cell? ⟨br, 2, none⟩ = some (.slice none 0 0) := (zK aY.out 2).trans rfl; have g9 : g0.cell? ⟨br, 3, none⟩ = some (.slice none 0 0) := (zK aY.out 3).trans rfl; have ha : g0.cell? ⟨br, 4, none⟩ = some (.slice none 0 0) := (zK aY.out 4).trans rfl; have hc : g0.cell? ⟨br, 5, none⟩ = some (.slice none 0 0) := (zK aY.out 5).trans rfl; have hfz16_0 := zL aY.out 0; have hfz16_1 := zL aY.out 1; have hfz16_2 := zL aY.out 2; have hfz16_3 := zL aY.out 3; have hfz16_4 := zL aY.out 4; have hfz16_5 := zL aY.out 5; have he : g0.cell? ⟨ad, 0, none⟩ = some (.int .i64 af) := (zK aa.out 0).trans rfl; have hf : g0.cell? ⟨ad, 1, none⟩ = some (.int .i64 aj) := (zK aa.out 1).trans rfl; have iO : g0.cell? ⟨ad, 2, none⟩ = some (.slice az ab.length aq) := (zK aa.out 2).trans rfl; have iP : g0.cell? ⟨ad, 3, none⟩ = some (.slice ay ae.length av) := (zK aa.out 3).trans rfl; have iQ : g0.cell? ⟨ad, 4, none⟩ = some (.slice ar ai.length au) := (zK aa.out 4).trans rfl; have iR : g0.cell? ⟨ad, 5, none⟩ = some (.slice aw ag.length ax) := (zK aa.out 5).trans rfl; have hfz17_5 := zL aa.out 5) | ((with_reducible refine gate_callee (f := 28) rfl ?_); refine goesL_ (some 16) rfl rfl Tryz.func28 zz1h rfl #[.slice ay ae.length av] rfl zz0h ?_; (with_reducible refine (laws_toIntSS.calls k _ _ ae cq _ ?al ?am A3.out).mono ?_); (case al => exact zS bu.out (zz0e HB ac ap eX)); (case am => exact bO.out); rintro e jr ⟨qC, rfl, cd, hb⟩; refine ⟨_, rfl, ?_⟩; have hsz_ := hb.size; (try simp at hsz_); have Z2_ := zA (show g0.heap.size ≤ jr.heap.size by omega); clear hsz_; replace cd := Kd.S_mono (ok' := fun q_ => g0.heap.size ≤ q_ ∧ q_ < jr.heap.size) (Kd.S_bound cd) (fun q_ h_ => ⟨zz14, h_.2.2.1⟩); have hs := zA (Kd.S_elder' zz06 (Kd.S_base cd) hb); have ht := zA (Kd.S_lower (Kd.S_new' cd (Kd.S_lt zz06)) (zF (zz0e HB ac ap eX))); have hu := zA (zM (g := ad) (o := .cells #[.int .i64 af, .int .i64 aj, .slice az ab.length aq, .slice ay ae.length av, .slice ar ai.length au, .slice aw ag.length ax] 25 (0, 0)) (zz0b ew aa) hb); have hv := zA (zM (g := ak) (o := .cells #[.int .i64 0, .int .i64 0, .slice none 0 0, .slice none 0 0, .slice none 0 0, .slice none 0 0] 32 (0, 0)) (zz0b dW ah) hb); have jv := zA (zM (g := br) (o := .cells #[.int .i64 af, .int .i64 aj, .slice eY aZ.length eZ, .slice none 0 0, .slice none 0 0, .slice none 0 0] 32 (0, 0)) (by (with_reducible repeat (first | refine zI ?_ _ | refine zJ ?_ | refine zH ?_ _)); refine zO (cs := #[.int .i64 af, .int .i64 aj, .slice none 0 0, .slice none 0 0, .slice none 0 0, .slice none 0 0]) ?_ 2 _ rfl; (with_reducible repeat (first | refine zI ?_ _ | refine zJ ?_ | refine zH ?_ _)); exact aY.out) hb); have kS := zA (zG (zz0e HB ac ap eX) hb); clear cQ; clear aa; clear ah; clear aY; clear HB; have cQ := hs; have di := ht; have aa := hu; have ah := hv; have aY := jv; have HB := kS; clear hs ht hu hv jv kS; (try clear hb); (try clear hb2); (try clear hk); (try clear hi); (try clear cd); obtain ⟨fY, fZ, pi⟩ := Kd.S_slice di.out; subst pi; have gl : jr.cell? ⟨br, 0, none⟩ = some (.int .i64 af) := (zK aY.out 0).trans rfl; have gm : jr.cell? ⟨br, 1, none⟩ = some (.int .i64 aj) := (zK aY.out 1).trans rfl; have iS : jr.cell? ⟨br, 2, none⟩ = some (.slice eY aZ.length eZ) := (zK aY.out 2).trans rfl; have iT : jr.cell? ⟨br, 3, none⟩ = some (.slice none 0 0) := (zK aY.out 3).trans rfl; have iU : jr.cell? ⟨br, 4, none⟩ = some (.slice none 0 0) := (zK aY.out 4).trans rfl; have iV : jr.cell? ⟨br, 5, none⟩ = some (.slice none 0 0) := (zK aY.out 5).trans rfl; have hfz20_0 := zL aY.out 0; have kV := zL aY.out 1; have hfz20_2 := zL aY.out 2; have hfz20_3 := zL aY.out 3; have hfz20_4 := zL aY.out 4; have hfz20_5 := zL aY.out 5; have hcz21_0 : jr.cell? ⟨ad, 0, none⟩ = some (.int .i64 af) := (zK aa.out 0).trans rfl; have hcz21_1 : jr.cell? ⟨ad, 1, none⟩ = some (.int .i64 aj) := (zK aa.out 1).trans rfl; have hcz21_2 : jr.cell? ⟨ad, 2, none⟩ = some (.slice az ab.length aq) := (zK aa.out 2).trans rfl; have hcz21_3 : jr.cell? ⟨ad, 3, none⟩ = some (.slice ay ae.length av) := (zK aa.out 3).trans rfl; have hcz21_4 : jr.cell? ⟨ad, 4, none⟩ = some (.slice ar ai.length au) := (zK aa.out 4).trans rfl; have hcz21_5 : jr.cell? ⟨ad, 5, none⟩ = some (.slice aw ag.length ax) := (zK aa.out 5).trans rfl; have hfz21_5 := zL aa.out 5) | ((with_reducible refine gate_callee (f := 10) rfl ?_); refine goesL_ (some 20) rfl rfl Tryz.func10 zz1h rfl #[.slice ar ai.length au] rfl zz0h ?_; (with_reducible refine (laws_toIntS.calls k _ _ ai cz _ ?al ?am A4.out).mono ?_); (case al => exact zS bP.out (zz0e HB ac ap eX)); (case am => exact bQ.out); rintro e iu ⟨nA, rfl, cd, hb⟩; refine ⟨_, rfl, ?_⟩; have hsz_ := hb.size; (try simp at hsz_); have Z3_ := zA (show jr.heap.size ≤ iu.heap.size by omega); clear hsz_; replace cd := Kd.R_mono (ok' := fun q_ => jr.heap.size ≤ q_ ∧ q_ < iu.heap.size) (Kd.R_bound cd) (fun q_ h_ => ⟨zz14, h_.2.2.1⟩); have hs := zA (Kd.S_elder' (by (with_reducible repeat (first | apply Kd.S_alloc | apply Kd.S_drewN | apply Kd.S_drew)); exact (Kd.S_mono (Kd.S_far (p := ⟨br, 3, none⟩) (Kd.S_types cQ.out aY.out zz1k) (fun _ hk => hk.2) (.slice fY cq.length fZ)) (fun _ h_ => h_.1))) (Kd.R_base cd) hb); have ht := zA (Kd.S_elder' (by (with_reducible repeat (first | apply Kd.S_alloc | apply Kd.S_drewN | apply Kd.S_drew)); exact (Kd.S_mono (Kd.S_far (p := ⟨br, 3, none⟩) (Kd.S_types di.out aY.out zz1k) (fun _ hk => hk.2) (.slice fY cq.length fZ)) (fun _ h_ => h_.1))) (Kd.R_base cd) hb); have hu := zA (Kd.R_lower cd (zF (zz0e HB ac ap eX))); have hv := zA (zM (g := ad) (o := .cells #[.int .i64 af, .int .i64 aj, .slice az ab.length aq, .slice ay ae.length av, .slice ar ai.length au, .slice aw ag.length ax] 25 (0, 0)) (zz0b ew aa) hb); have jv := zA (zM (g := ak) (o := .cells #[.int .i64 0, .int .i64 0, .slice none 0 0, .slice none 0 0, .slice none 0 0, .slice none 0 0] 32 (0, 0)) (zz0b dW ah) hb); have kS := zA (zM (g := br) (o := .cells #[.int .i64 af, .int .i64 aj, .slice eY aZ.length eZ, .slice fY cq.length fZ, .slice none 0 0, .slice none 0 0] 32 (0, 0)) (by (with_reducible repeat (first | refine zI ?_ _ | refine zJ ?_ | refine zH ?_ _)); refine zO (cs := #[.int .i64 af, .int .i64 aj, .slice eY aZ.length eZ, .slice none 0 0, .slice none 0 0, .slice none 0 0]) ?_ 3 _ rfl; (with_reducible repeat (first | refine zI ?_ _ | refine zJ ?_ | refine zH ?_ _)); exact aY.out) hb); have mf := zA (zG (zz0e HB ac ap eX) hb); clear cQ; clear di; clear aa; clear ah; clear aY; clear HB; have cQ := hs; have di := ht; have cO := hu; have aa := hv; have ah := jv; have aY := kS; have HB := mf; clear hs ht hu hv jv kS mf; (try clear hb); (try clear hb2); (try clear hk); (try clear hi); (try clear cd); obtain ⟨f0, fB, nB⟩ := Kd.R_slice cO.out; subst nB; have kW : iu.cell? ⟨br, 0, none⟩ = some (.int .i64 af) := (zK aY.out 0).trans rfl; have kX : iu.cell? ⟨br, 1, none⟩ = some (.int .i64 aj) := (zK aY.out 1).trans rfl; have kY : iu.cell? ⟨br, 2, none⟩ = some (.slice eY aZ.length eZ) := (zK aY.out 2).trans rfl; have kZ : iu.cell? ⟨br, 3, none⟩ = some (.slice fY cq.length fZ) := (zK aY.out 3).trans rfl; have k0 : iu.cell? ⟨br, 4, none⟩ = some (.slice none 0 0) := (zK aY.out 4).trans rfl; have k4 : iu.cell? ⟨br, 5, none⟩ = some (.slice none 0 0) := (zK aY.out 5).trans rfl; have hfz24_0 := zL aY.out 0; have hfz24_1 := zL aY.out 1; have hfz24_2 := zL aY.out 2; have hfz24_3 := zL aY.out 3; have hfz24_4 := zL aY.out 4; have k5 := zL aY.out 5; have hcz25_0 : iu.cell? ⟨ad, 0, none⟩ = some (.int .i64 af) := (zK aa.out 0).trans rfl; have hcz25_1 : iu.cell? ⟨ad, 1, none⟩ = some (.int .i64 aj) := (zK aa.out 1).trans rfl; have hcz25_2 : iu.cell? ⟨ad, 2, none⟩ = some (.slice az ab.length aq) := (zK aa.out 2).trans rfl; have hcz25_3 : iu.cell? ⟨ad, 3, none⟩ = some (.slice ay ae.length av) := (zK aa.out 3).trans rfl; have hcz25_4 : iu.cell? ⟨ad, 4, none⟩ = some (.slice ar ai.length au) := (zK aa.out 4).trans rfl; have hcz25_5 : iu.cell? ⟨ad, 5, none⟩ = some (.slice aw ag.length ax) := (zK aa.out 5).trans rfl; have hfz25_5 := zL aa.out 5) | ((with_reducible refine gate_callee (f := 28) rfl ?_); refine goesL_ (some 24) rfl rfl Tryz.func28 zz1h rfl #[.slice aw ag.length ax] rfl zz0h ?_; (with_reducible refine (laws_toIntSS.calls k _ _ ag d4 _ ?al ?am A5.out).mono ?_); (case al => exact zS bR.out (zz0e HB ac ap eX)); (case am => exact bV.out); rintro e j9 ⟨d5, rfl, cd, hb⟩; refine ⟨_, rfl, ?_⟩; have hsz_ := hb.size; (try simp at hsz_); have Z4_ := zA (show iu.heap.size ≤ j9.heap.size by omega); clear hsz_; replace cd := Kd.S_mono (ok' := fun q_ => iu.heap.size ≤ q_ ∧ q_ < j9.heap.size) (Kd.S_bound cd) (fun q_ h_ => ⟨zz14, h_.2.2.1⟩); have hs := zA (Kd.S_elder' zz07 (Kd.S_base cd) hb); have ht := zA (Kd.S_elder' zz08 (Kd.S_base cd) hb); have hu := zA (Kd.R_below zz09 hb); have hv := zA (Kd.S_lower (Kd.S_new' (Kd.S_new' (Kd.S_new' cd (Kd.S_lt zz07)) (Kd.S_lt zz08)) (Kd.R_lt zz09)) (zF (zz0e HB ac ap eX))); have jv := zA (zM (g := ad) (o := .cells #[.int .i64 af, .int .i64 aj, .slice az ab.length aq, .slice ay ae.length av, .slice ar ai.length au, .slice aw ag.length ax] 25 (0, 0)) (zz0b ew aa) hb); have kS := zA (zM (g := ak) (o := .cells #[.int .i64 0, .int .i64 0, .slice none 0 0, .slice none 0 0, .slice none 0 0, .slice none 0 0] 32 (0, 0)) (zz0b dW ah) hb); have mf := zA (zM (g := br) (o := .cells #[.int .i64 af, .int .i64 aj, .slice eY aZ.length eZ, .slice fY cq.length fZ, .slice f0 cz.length fB, .slice none 0 0] 32 (0, 0)) (by (with_reducible repeat (first | refine zI ?_ _ | refine zJ ?_ | refine zH ?_ _)); refine zO (cs := #[.int .i64 af, .int .i64 aj, .slice eY aZ.length eZ, .slice fY cq.length fZ, .slice none 0 0, .slice none 0 0]) ?_ 4 _ rfl; (with_reducible repeat (first | refine zI ?_ _ | refine zJ ?_ | refine zH ?_ _)); exact aY.out) hb); have qB := zA (zG (zz0e HB ac ap eX) hb); clear cQ; clear di; clear cO; clear aa; clear ah; clear aY; clear HB; have cQ := hs; have di := ht; have cO := hu; have dj := hv; have aa := jv; have ah := kS; have aY := mf; have HB := qB; clear hs ht hu hv jv kS mf qB; (try clear hb); (try clear hb2); (try clear hk); (try clear hi); (try clear cd); obtain ⟨iW, iX, eo27⟩ := Kd.S_slice dj.out; subst eo27; have hcz28_0 : j9.cell? ⟨br, 0, none⟩ = some (.int .i64 af) := (zK aY.out 0).trans rfl; have hcz28_1 : j9.cell? ⟨br, 1, none⟩ = some (.int .i64 aj) := (zK aY.out 1).trans rfl; have hcz28_2 : j9.cell? ⟨br, 2, none⟩ = some (.slice eY aZ.length eZ) := (zK aY.out 2).trans rfl; have hcz28_3 : j9.cell? ⟨br, 3, none⟩ = some (.slice fY cq.length fZ) := (zK aY.out 3).trans rfl; have hcz28_4 : j9.cell? ⟨br, 4, none⟩ = some (.slice f0 cz.length fB) := (zK aY.out 4).trans rfl; have hcz28_5 : j9.cell? ⟨br, 5, none⟩ = some (.slice none 0 0) := (zK aY.out 5).trans rfl; have hfz28_0 := zL aY.out 0; have hfz28_1 := zL aY.out 1; have hfz28_2 := zL aY.out 2; have hfz28_3 := zL aY.out 3; have hfz28_4 := zL aY.out 4; have hfz28_5 := zL aY.out 5; have hcz29_0 : j9.cell? ⟨ak, 0, none⟩ = some (.int .i64 0) := (zK ah.out 0).trans rfl; have hcz29_1 : j9.cell? ⟨ak, 1, none⟩ = some (.int .i64 0) := (zK ah.out 1).trans rfl; have hcz29_2 : j9.cell? ⟨ak, 2, none⟩ = some (.slice none 0 0) := (zK ah.out 2).trans rfl; have hcz29_3 : j9.cell? ⟨ak, 3, none⟩ = some (.slice none 0 0) := (zK ah.out 3).trans rfl; have hcz29_4 : j9.cell? ⟨ak, 4, none⟩ = some (.slice none 0 0) := (zK ah.out 4).trans rfl; have hcz29_5 : j9.cell? ⟨ak, 5, none⟩ = some (.slice none 0 0) := (zK ah.out 5).trans rfl; have hfz29_0 := zL ah.out 0; have hfz29_1 := zL ah.out 1; have hfz29_2 := zL ah.out 2; have hfz29_3 := zL ah.out 3; have hfz29_4 := zL ah.out 4; have hfz29_5 := zL ah.out 5)); refine bodyPost_ret (results_cell_row rfl _ _ ak 32 #[.int .i64 af, .int .i64 aj, .slice eY aZ.length eZ, .slice fY cq.length fZ, .slice f0 cz.length fB, .slice iW d4.length iX] (0, 0) _ rfl (by (with_reducible repeat (first | refine zI ?_ _ | refine zJ ?_ | refine zH ?_ _)); refine zO (cs := #[.int .i64 af, .int .i64 aj, .slice eY aZ.length eZ, .slice fY cq.length fZ, .slice f0 cz.length fB, .slice none 0 0]) ?_ 5 _ rfl; (with_reducible repeat (first | refine zI ?_ _ | refine zJ ?_ | refine zH ?_ _)); refine zO (cs := #[.int .i64 af, .int .i64 aj, .slice eY aZ.length eZ, .slice fY cq.length fZ, .slice none 0 0, .slice none 0 0]) ?_ 4 _ rfl; (with_reducible repeat (first | refine zI ?_ _ | refine zJ ?_ | refine zH ?_ _)); refine zO (cs := #[.int .i64 af, .int .i64 aj, .slice eY aZ.length eZ, .slice none 0 0, .slice none 0 0, .slice none 0 0]) ?_ 3 _ rfl; (with_reducible repeat (first | refine zI ?_ _ | refine zJ ?_ | refine zH ?_ _)); refine zO (cs := #[.int .i64 af, .int .i64 aj, .slice none 0 0, .slice none 0 0, .slice none 0 0, .slice none 0 0]) ?_ 2 _ rfl; (with_reducible repeat (first | refine zI ?_ _ | refine zJ ?_ | refine zH ?_ _)); refine zO (cs := #[.int .i64 af, .int .i64 0, .slice none 0 0, .slice none 0 0, .slice none 0 0, .slice none 0 0]) ?_ 1 _ rfl; (with_reducible repeat (first | refine zI ?_ _ | refine zJ ?_ | refine zH ?_ _)); refine zO (cs := #[.int .i64 0, .int .i64 0, .slice none 0 0, .slice none 0 0, .slice none 0 0, .slice none 0 0]) ?_ 0 _ rfl; (with_reducible repeat (first | refine zI ?_ _ | refine zJ ?_ | refine zH ?_ _)); refine zN ?_ dW.out _; (with_reducible repeat (first | refine zI ?_ _ | refine zJ ?_ | refine zH ?_ _)); exact ah.out) Tryz.underlying32 rfl zz1h) rfl ?_; exact ⟨_, _, _, _, w8.heap.size, g0.heap.size, jr.heap.size, iu.heap.size, j9.heap.size, zz0v, ⟨Z0_.out, Z1_.out, Z2_.out, Z3_.out, Z4_.out, by first | (simp; done) | omega | (simp; omega)⟩, zz00 cQ aY ah, zz00 di aY ah, by (with_reducible repeat (first | apply zT | apply zU | apply zV)); exact Kd.R_mono (Kd.R_far (p := ⟨ak, 5, none⟩) (Kd.R_far (p := ⟨ak, 4, none⟩) (Kd.R_far (p := ⟨ak, 3, none⟩) (Kd.R_far (p := ⟨ak, 2, none⟩) (Kd.R_far (p := ⟨ak, 1, none⟩) (Kd.R_far (p := ⟨ak, 0, none⟩) (Kd.R_far (p := ⟨br, 5, none⟩) (Kd.R_types (Kd.R_types cO.out aY.out zz1k) ah.out zz1k) (fun _ hk => hk.1.2) (.slice iW d4.length iX)) (fun _ hk => hk.2) (.int .i64 af)) (fun _ hk => hk.2) (.int .i64 aj)) (fun _ hk => hk.2) (.slice eY aZ.length eZ)) (fun _ hk => hk.2) (.slice fY cq.length fZ)) (fun _ hk => hk.2) (.slice f0 cz.length fB)) (fun _ hk => hk.2) (.slice iW d4.length iX)) (fun _ hk => by repeat (first | exact hk | replace hk := hk.1)), zz00 dj aY ah, zz0e HB ac ap eX⟩
theorem laws_toBinary.calls (k : Nat) (af : Int) (aj : Int) (az : Option Addr) (aq : Nat) (ab : List (List Int)) (ay : Option Addr) (av : Nat) (ae : List (List Int)) (ar : Option Addr) (au : Nat) (ai : List Int) (aw : Option Addr) (ax : Nat) (ag : List (List Int)) (r1 : Int) (r2 : Int) (r3 : List (List Int)) (r4 : List (List Int)) (r5 : List Int) (r6 : List (List Int)) (w : World) (bD : Kd.C (Kd.slice 3 (Kd.int .i64)) w az ab.length ab) (bE : ab.length ≤ aq) (bF : Kd.C (Kd.slice 3 (Kd.int .i64)) w ay ae.length ae) (bG : ae.length ≤ av) (bH : Kd.C (Kd.int .i64) w ar ai.length ai) (bI : ai.length ≤ au) (bJ : Kd.C (Kd.slice 3 (Kd.int .i64)) w aw ag.length ag) (bK : ag.length ≤ ax) (h : laws_toBinary.f k af aj ab ae ai ag = some (r1, r2, r3, r4, r5, r6)) :
 Calls Tryz.prog 8 #[.agg #[.int .i64 af, .int .i64 aj, .slice az ab.length aq, .slice ay ae.length av, .slice ar ai.length au, .slice aw ag.length ax]] w fun e w' => ∃ pe pf oc pg : Value, e = .returned (.agg #[.int .i64 r1, .int .i64 r2, pe, pf, oc, pg]) ∧ Kd.S (Kd.slice 3 (Kd.int .i64)) 23 w' w.heap.size (fun k_ => some k_ ≠ (pf : Value).ownBlock ∧ some k_ ≠ (oc : Value).ownBlock ∧ some k_ ≠ (pg : Value).ownBlock) pe r3 ∧ Kd.S (Kd.slice 3 (Kd.int .i64)) 23 w' w.heap.size (fun k_ => some k_ ≠ (pe : Value).ownBlock ∧ some k_ ≠ (oc : Value).ownBlock ∧ some k_ ≠ (pg : Value).ownBlock) pf r4 ∧ Kd.R (Kd.int .i64) 3 w' w.heap.size (fun _ => True) oc r5 ∧ Kd.S (Kd.slice 3 (Kd.int .i64)) 23 w' w.heap.size (fun k_ => some k_ ≠ (pe : Value).ownBlock ∧ some k_ ≠ (pf : Value).ownBlock ∧ some k_ ≠ (oc : Value).ownBlock) pg r6 ∧ Below w.heap.size w w' := by
 refine (laws_toBinary.apart k af aj az aq ab ay av ae ar au ai aw ax ag r1 r2 r3 r4 r5 r6 w bD bE bF bG bH bI bJ bK h).mono ?_; rintro e w' ⟨v2, v3, v4, v5, m0, m1, m2, m3, m4, rfl, hm, h2, h3, h4, h5, hb⟩; have o2 : ∀ k, (v2 : Value).ownBlock = some k → m0 ≤ k ∧ k < m1 := by obtain ⟨_, g⟩ := id h2; exact g.1
 have o3 : ∀ k, (v3 : Value).ownBlock = some k → m1 ≤ k ∧ k < m2 := by obtain ⟨_, g⟩ := id h3; exact g.1
 have o4 : ∀ k, (v4 : Value).ownBlock = some k → m2 ≤ k ∧ k < m3 := h4.1; have o5 : ∀ k, (v5 : Value).ownBlock = some k → m3 ≤ k ∧ k < m4 := by obtain ⟨_, g⟩ := id h5; exact g.1
 exact ⟨v2, v3, v4, v5, rfl, Kd.S_mono h2 (fun k_ hk => ⟨fun e_ => by have := o3 k_ e_.symm; omega, fun e_ => by have := o4 k_ e_.symm; omega, fun e_ => by have := o5 k_ e_.symm; omega⟩), Kd.S_mono h3 (fun k_ hk => ⟨fun e_ => by have := o2 k_ e_.symm; omega, fun e_ => by have := o4 k_ e_.symm; omega, fun e_ => by have := o5 k_ e_.symm; omega⟩), Kd.R_mono h4 (fun _ _ => trivial), Kd.S_mono h5 (fun k_ hk => ⟨fun e_ => by have := o2 k_ e_.symm; omega, fun e_ => by have := o3 k_ e_.symm; omega, fun e_ => by have := o4 k_ e_.symm; omega⟩), hb⟩
end Go.Proofs.YtkocahlifffgjaaGreat.P
namespace Go.Proofs.YtkocahlifffgjaaGreat.P
open Go.RowKit Go.Proofs.YtkocahlifffgjaaGreatW.PrintWords
set_option linter.unusedVariables false
set_option linter.unusedSimpArgs false
def smallB (ps os : List (List Int)) (es : List Int) (fs : List (List Int)) : Prop := smallL ps ∧ smallL os ∧ es.length ≤ 1048576 ∧ smallL fs
theorem szBinary_fr (a0 a1 : Int) (l2 l3 : List (List Int)) (l4 : List Int) (l5 : List (List Int)) (h2 : fitL l2) (h3 : fitL l3) (h4 : l4.length ≤ 9223372036854775807) (h5 : fitL l5) (a : Int) (ha : 0 ≤ a) (ha2 : a ≤ 1048576) :
 ∃ t, Ev (fun k => laws_szBinary.f k a0 a1 l2 l3 l4 l5 a) t ∧ t ≤ 1048576 ∧ (0 ≤ t → smallB l2 l3 l4 l5) := by
 obtain ⟨t2, ⟨K2, e2⟩, b2, s2⟩ := szIntSS_fr l2 h2.1 h2.2 a ha ha2; dsimp only at e2; by_cases n2 : t2 < 0
 · refine ⟨-1, ⟨K2, fun k hk => ?_⟩, zz1l, fun h => by omega⟩; dsimp only; unfold laws_szBinary.f; rw [e2 k hk]; simp only [Option.bind_some]; rw [if_pos n2]
 · obtain ⟨t3, ⟨K3, e3⟩, b3, s3⟩ := szIntSS_fr l3 h3.1 h3.2 t2 zz1l b2; dsimp only at e3; by_cases n3 : t3 < 0
   · refine ⟨-1, ⟨K2 + K3, fun k hk => ?_⟩, zz1l, fun h => by omega⟩; dsimp only; unfold laws_szBinary.f; rw [e2 k zz1l]; simp only [Option.bind_some]; rw [if_neg n2, e3 k zz1l]; simp only [Option.bind_some]; rw [if_pos n3]
   · have e4 := szIntS_eq l4 t3 b3 zz1l h4; by_cases n4 : t3 - (l4.length : Int) < 0
     · rw [if_pos n4] at e4; refine ⟨-1, ⟨K2 + K3, fun k hk => ?_⟩, zz1l, fun h => by omega⟩; dsimp only; unfold laws_szBinary.f; rw [e2 k zz1l]; simp only [Option.bind_some]; rw [if_neg n2, e3 k zz1l]; simp only [Option.bind_some]; rw [if_neg n3, e4]; rfl
     · rw [if_neg n4] at e4; obtain ⟨t5, ⟨K5, e5⟩, b5, s5⟩ := szIntSS_fr l5 h5.1 h5.2 (t3 - l4.length) zz1l zz1l; dsimp only at e5; by_cases n5 : t5 < 0
       · refine ⟨-1, ⟨K2 + K3 + K5, fun k hk => ?_⟩, zz1l, fun h => by omega⟩; dsimp only; unfold laws_szBinary.f; rw [e2 k zz1l]; simp only [Option.bind_some]; rw [if_neg n2, e3 k zz1l]; simp only [Option.bind_some]; rw [if_neg n3, e4]; simp only [Option.bind_some]; rw [if_neg n4, e5 k zz1l]; simp only [Option.bind_some]; rw [if_pos n5]
       · refine ⟨t5, ⟨K2 + K3 + K5, fun k hk => ?_⟩, b5, fun h => ⟨s2 zz1l, s3 zz1l, zz1l, s5 h⟩⟩; dsimp only; unfold laws_szBinary.f; rw [e2 k zz1l]; simp only [Option.bind_some]; rw [if_neg n2, e3 k zz1l]; simp only [Option.bind_some]; rw [if_neg n3, e4]; simp only [Option.bind_some]; rw [if_neg n4, e5 k zz1l]; simp only [Option.bind_some]; rw [if_neg n5]
theorem toBinary_ev (a0 a1 : Int) (l2 l3 : List (List Int)) (l4 : List Int) (l5 : List (List Int)) (h : smallB l2 l3 l4 l5) : Ev (fun k => laws_toBinary.f k a0 a1 l2 l3 l4 l5) (a0, a1, l2, l3, l4, l5) := by
 obtain ⟨K2, e2⟩ := toIntSS_ev l2 h.1; obtain ⟨K3, e3⟩ := toIntSS_ev l3 h.2.1; obtain ⟨K4, e4⟩ := toIntS_ev l4 h.2.2.1; obtain ⟨K5, e5⟩ := toIntSS_ev l5 h.2.2.2; dsimp only at e2 e3 e4 e5; refine ⟨K2 + K3 + K4 + K5, fun k hk => ?_⟩; dsimp only; unfold laws_toBinary.f; rw [e2 k zz1l, e3 k zz1l, e4 k zz1l, e5 k zz1l]; rfl
theorem eqBinary_ev (a0 a1 : Int) (l2 l3 : List (List Int)) (l4 : List Int) (l5 : List (List Int)) (h : smallB l2 l3 l4 l5) : Ev (fun k => laws_eqBinary.f k a0 a1 l2 l3 l4 l5 a0 a1 l2 l3 l4 l5) true := by
 obtain ⟨K2, e2⟩ := eqIntSS_ev l2 h.1.1 h.1.2; obtain ⟨K3, e3⟩ := eqIntSS_ev l3 h.2.1.1 h.2.1.2; obtain ⟨K4, e4⟩ := eqIntS_ev l4 (by have := h.2.2.1; omega); obtain ⟨K5, e5⟩ := eqIntSS_ev l5 h.2.2.2.1 h.2.2.2.2; dsimp only at e2 e3 e4 e5; refine ⟨K2 + K3 + K4 + K5, fun k hk => ?_⟩; dsimp only; unfold laws_eqBinary.f; rw [if_pos rfl, if_pos rfl, e2 k zz1l]; simp only [Option.bind_some, if_true]; rw [e3 k zz1l]; simp only [Option.bind_some, if_true]; rw [e4 k zz1l]; simp only [Option.bind_some, if_true]; rw [e5 k zz1l]; rfl
theorem reads_smallB {w : World} {A2 A3 A4 A5 : Option Addr} {l2 l3 : List (List Int)} {l4 : List Int} {l5 : List (List Int)} (h2 : Kd.C (Kd.slice 3 (Kd.int .i64)) w A2 l2.length l2) (h3 : Kd.C (Kd.slice 3 (Kd.int .i64)) w A3 l3.length l3) (h4 : Kd.C (Kd.int .i64) w A4 l4.length l4) (h5 : Kd.C (Kd.slice 3 (Kd.int .i64)) w A5 l5.length l5) : (fitL l2 ∧ fitL l3) ∧ (l4.length ≤ 9223372036854775807 ∧ fitL l5) := ⟨⟨reads_fitL h2, reads_fitL h3⟩, h4.2.1, reads_fitL h5⟩
theorem szBinary_from (a0 a1 : Int) (l2 l3 : List (List Int)) (l4 : List Int) (l5 : List (List Int)) (h : fitL l2 ∧ fitL l3) (h' : l4.length ≤ 9223372036854775807 ∧ fitL l5) (a : Int) (ha : 0 ≤ a) (ha2 : a ≤ 1048576) :
 ∃ t, Ev (fun k => laws_szBinary.f k a0 a1 l2 l3 l4 l5 a) t ∧ t ≤ 1048576 ∧ (0 ≤ t → smallB l2 l3 l4 l5) := szBinary_fr a0 a1 l2 l3 l4 l5 h.1 h.2 h'.1 h'.2 a ha ha2
end Go.Proofs.YtkocahlifffgjaaGreat.P
namespace Go.Proofs.YtkocahlifffgjaaGreat.P
open Go.RowKit Go.Proofs.YtkocahlifffgjaaGreatW.PrintWords Go.Proofs.YtkocahlifffgjaaGreatW.PrintLast Go.Proofs.YtkocahlifffgjaaGreatW.PrintMore
set_option linter.unusedVariables false
set_option linter.unusedSimpArgs false
def szB (l2 l3 : List (List Int)) (l4 : List Int) (l5 : List (List Int)) : Nat := szRows l2 + szRows l3 + l4.length + szRows l5
def mkB0 (l2 l3 : List (List Int)) (l4 : List Int) (l5 : List (List Int)) (k : Int) : List (List Int) := mkRows l2 k
def mkB1 (l2 l3 : List (List Int)) (l4 : List Int) (l5 : List (List Int)) (k : Int) : List (List Int) := mkRows l3 (k + szRows l2)
def mkB2 (l2 l3 : List (List Int)) (l4 : List Int) (l5 : List (List Int)) (k : Int) : List Int := ramp (k + szRows l2 + szRows l3) l4.length
def mkB3 (l2 l3 : List (List Int)) (l4 : List Int) (l5 : List (List Int)) (k : Int) : List (List Int) := mkRows l5 (k + szRows l2 + szRows l3 + l4.length)
theorem szRows_bound {l : List (List Int)} (h : smallL l) : szRows l ≤ 1099511627776 := by
 have := szRows_small l 1048576 (fun r hr => by
  obtain ⟨j, hj, rfl⟩ := List.getElem_of_mem hr; have := h.2 j hj; unfold rd_L1 at this; rwa [Int.toNat_natCast, List.getD_eq_getElem?_getD, List.getElem?_eq_getElem hj] at this)
 have h1 := h.1; have : l.length * 1048576 ≤ 1048576 * 1048576 := Nat.mul_le_mul_right _ h1; omega
theorem szB_bound {l2 l3 : List (List Int)} {l4 : List Int} {l5 : List (List Int)} (h : smallB l2 l3 l4 l5) : szB l2 l3 l4 l5 ≤ 4398047559680 := by
 have h1 := szRows_bound h.1; have h2 := szRows_bound h.2.1; have h3 := h.2.2.1; have h4 := szRows_bound h.2.2.2; unfold szB; omega
set_option maxHeartbeats 8000000 in
set_option maxRecDepth 100000 in
theorem markBinary_calls (P2 P3 P4 P5 : Nat → Prop) (a0 a1 : Int) (u2 u3 u4 u5 : Value) (l2 l3 : List (List Int)) (l4 : List Int) (l5 : List (List Int)) (k : Int) (w0 w : World) (hB : Below w0.heap.size w0 w)
 (ho2 : Kd.S (Kd.slice 3 (Kd.int .i64)) 23 w w0.heap.size P2 u2 l2) (ho3 : Kd.S (Kd.slice 3 (Kd.int .i64)) 23 w w0.heap.size P3 u3 l3) (ho4 : Kd.R (Kd.int .i64) 3 w w0.heap.size P4 u4 l4) (ho5 : Kd.S (Kd.slice 3 (Kd.int .i64)) 23 w w0.heap.size P5 u5 l5)
 (hd : ∀ q, (P2 q → ¬ P3 q ∧ ¬ P4 q ∧ ¬ P5 q ∧ q < w.heap.size) ∧ (P3 q → ¬ P2 q ∧ ¬ P4 q ∧ ¬ P5 q ∧ q < w.heap.size) ∧ (P4 q → ¬ P2 q ∧ ¬ P3 q ∧ ¬ P5 q ∧ q < w.heap.size) ∧ (P5 q → ¬ P2 q ∧ ¬ P3 q ∧ ¬ P4 q ∧ q < w.heap.size))
 (ha : 0 ≤ k) (hs : k + szB l2 l3 l4 l5 ≤ 1152921504606846976) (hn2 : l2.length ≤ 1152921504606846976) (hn3 : l3.length ≤ 1152921504606846976) (hn5 : l5.length ≤ 1152921504606846976) :
 Calls Tryz.prog 15 #[.agg #[.int .i64 a0, .int .i64 a1, u2, u3, u4, u5], .int .i64 k] w fun e w' => e = .returned (.int .i64 (k + szB l2 l3 l4 l5)) ∧ Kd.S (Kd.slice 3 (Kd.int .i64)) 23 w' w0.heap.size P2 u2 (mkB0 l2 l3 l4 l5 k) ∧ Kd.S (Kd.slice 3 (Kd.int .i64)) 23 w' w0.heap.size P3 u3 (mkB1 l2 l3 l4 l5 k) ∧ Kd.R (Kd.int .i64) 3 w' w0.heap.size P4 u4 (mkB2 l2 l3 l4 l5 k) ∧ Kd.S (Kd.slice 3 (Kd.int .i64)) 23 w' w0.heap.size P5 u5 (mkB3 l2 l3 l4 l5 k) ∧ Below w0.heap.size w0 w' ∧ Kept w w' (fun q => P2 q ∨ P3 q ∨ P4 q ∨ P5 q) := by
 unfold szB at hs ⊢; unfold mkB0 mkB1 mkB2 mkB3; obtain ⟨A2, c2, eu⟩ := Kd.S_slice ho2; subst eu; obtain ⟨A3, c3, eu⟩ := Kd.S_slice ho3; subst eu; obtain ⟨A4, c4, eu⟩ := Kd.R_slice ho4; subst eu; obtain ⟨A5, c5, eu⟩ := Kd.S_slice ho5; subst eu; have hu := Tryz.underlying32; have O2 := zA ho2; have O3 := zA ho3; have O4 := zA ho4; have O5 := zA ho5; have HB := zA hB; have HD := zA hd; have HS := zA hs; have HA := zA ha; have HN := zA (show l2.length ≤ 1152921504606846976 ∧ l3.length ≤ 1152921504606846976 ∧ l5.length ≤ 1152921504606846976 from ⟨hn2, hn3, hn5⟩); clear ho2 ho3 ho4 ho5 hB hd hs ha hn2 hn3 hn5; go_enter Tryz.func15, Tryz.ntmps15; go_wp2_with fail; refine (markIntSS_calls P2 _ l2 k w0 _ (zz17 HB) (zz13 O2) (zz1b HA) (zz1b HS) HN.out.1).mono ?_; rintro e w2 ⟨rfl, ho, hb, hk⟩; have N2 := zA ho; have N3 := zA (Kd.S_kept (zz13 O3) hk (fun q h1_ h2_ => ((HD.out q).2.1 h1_).1 h2_)); have N4 := zA (Kd.R_kept (by repeat (first | exact O4.out | apply zT)) hk (fun q h1_ h2_ => ((HD.out q).2.2.1 h1_).1 h2_)); have N5 := zA (Kd.S_kept (zz13 O5) hk (fun q h1_ h2_ => ((HD.out q).2.2.2 h1_).1 h2_)); have NX := zA (blk_kept (o := .cells #[.int .i64 a0, .int .i64 a1, .slice A2 l2.length c2, .slice A3 l3.length c3, .slice A4 l4.length c4, .slice A5 l5.length c5] 32 (0, 0)) (heap_alloc_new w _) hk (fun h_ => absurd ((HD.out _).1 h_).2.2.2 (Nat.lt_irrefl _))); have NK := zA ((Kept.alloc (Kept.refl w (fun q => P2 q ∨ P3 q ∨ P4 q ∨ P5 q)) _).then_ hk (fun q hq => .inl ((fun h_ => .inl h_) hq))); have NB := zA hb; clear ho hb hk O2 O3 O4 O5 HB; have O2 := N2; have O3 := N3; have O4 := N4; have O5 := N5; have BX := NX; have HK := NK; have HB := NB; clear N2 N3 N4 N5 NX NK NB; have hc0 : w2.cell? ⟨w.heap.size, 0, none⟩ = some (.int .i64 a0) := (zK BX.out 0).trans rfl; have hc1 : w2.cell? ⟨w.heap.size, 1, none⟩ = some (.int .i64 a1) := (zK BX.out 1).trans rfl; have hc2 : w2.cell? ⟨w.heap.size, 2, none⟩ = some (.slice A2 l2.length c2) := (zK BX.out 2).trans rfl; have hc3 : w2.cell? ⟨w.heap.size, 3, none⟩ = some (.slice A3 l3.length c3) := (zK BX.out 3).trans rfl; have hc4 : w2.cell? ⟨w.heap.size, 4, none⟩ = some (.slice A4 l4.length c4) := (zK BX.out 4).trans rfl; have hc5 : w2.cell? ⟨w.heap.size, 5, none⟩ = some (.slice A5 l5.length c5) := (zK BX.out 5).trans rfl; go_wp2_with fail; clear hc0 hc1 hc2 hc3 hc4 hc5; refine (markIntSS_calls P3 _ l3 (k + szRows l2) w0 _ (zz17 HB) (zz13 O3) (zz1b HA) (zz1b HS) HN.out.2.1).mono ?_; rintro e w3 ⟨rfl, ho, hb, hk⟩; have N2 := zA (Kd.S_kept (zz13 O2) hk (fun q h1_ h2_ => ((HD.out q).1 h1_).1 h2_)); have N3 := zA ho; have N4 := zA (Kd.R_kept (by repeat (first | exact O4.out | apply zT)) hk (fun q h1_ h2_ => ((HD.out q).2.2.1 h1_).2.1 h2_)); have N5 := zA (Kd.S_kept (zz13 O5) hk (fun q h1_ h2_ => ((HD.out q).2.2.2 h1_).2.1 h2_)); have NX := zA (blk_kept BX.out hk (fun h_ => absurd ((HD.out _).2.1 h_).2.2.2 (Nat.lt_irrefl _))); have NK := zA (HK.out.then_ hk (fun q hq => .inl ((fun h_ => .inr (.inl h_)) hq))); have NB := zA hb; clear ho hb hk O2 O3 O4 O5 HB BX HK; have O2 := N2; have O3 := N3; have O4 := N4; have O5 := N5; have BX := NX; have HK := NK; have HB := NB; clear N2 N3 N4 N5 NX NK NB; have hc0 : w3.cell? ⟨w.heap.size, 0, none⟩ = some (.int .i64 a0) := (zK BX.out 0).trans rfl; have hc1 : w3.cell? ⟨w.heap.size, 1, none⟩ = some (.int .i64 a1) := (zK BX.out 1).trans rfl; have hc2 : w3.cell? ⟨w.heap.size, 2, none⟩ = some (.slice A2 l2.length c2) := (zK BX.out 2).trans rfl; have hc3 : w3.cell? ⟨w.heap.size, 3, none⟩ = some (.slice A3 l3.length c3) := (zK BX.out 3).trans rfl; have hc4 : w3.cell? ⟨w.heap.size, 4, none⟩ = some (.slice A4 l4.length c4) := (zK BX.out 4).trans rfl; have hc5 : w3.cell? ⟨w.heap.size, 5, none⟩ = some (.slice A5 l5.length c5) := (zK BX.out 5).trans rfl; go_wp2_with fail; clear hc0 hc1 hc2 hc3 hc4 hc5; refine (markIntS_calls P4 _ l4 (k + szRows l2 + szRows l3) w0 _ (zz17 HB) (by repeat (first | exact O4.out | apply zT)) (zz1b HA) (zz1b HS)).mono ?_; rintro e w4 ⟨rfl, ho, hb, hk⟩; have N2 := zA (Kd.S_kept (zz13 O2) hk (fun q h1_ h2_ => ((HD.out q).1 h1_).2.1 h2_)); have N3 := zA (Kd.S_kept (zz13 O3) hk (fun q h1_ h2_ => ((HD.out q).2.1 h1_).2.1 h2_)); have N4 := zA ho; have N5 := zA (Kd.S_kept (zz13 O5) hk (fun q h1_ h2_ => ((HD.out q).2.2.2 h1_).2.2.1 h2_)); have NX := zA (blk_kept BX.out hk (fun h_ => absurd ((HD.out _).2.2.1 h_).2.2.2 (Nat.lt_irrefl _))); have NK := zA (HK.out.then_ hk (fun q hq => .inl ((fun h_ => .inr (.inr (.inl h_))) hq))); have NB := zA hb; clear ho hb hk O2 O3 O4 O5 HB BX HK; have O2 := N2; have O3 := N3; have O4 := N4; have O5 := N5; have BX := NX; have HK := NK; have HB := NB; clear N2 N3 N4 N5 NX NK NB; have hc0 : w4.cell? ⟨w.heap.size, 0, none⟩ = some (.int .i64 a0) := (zK BX.out 0).trans rfl; have hc1 : w4.cell? ⟨w.heap.size, 1, none⟩ = some (.int .i64 a1) := (zK BX.out 1).trans rfl; have hc2 : w4.cell? ⟨w.heap.size, 2, none⟩ = some (.slice A2 l2.length c2) := (zK BX.out 2).trans rfl; have hc3 : w4.cell? ⟨w.heap.size, 3, none⟩ = some (.slice A3 l3.length c3) := (zK BX.out 3).trans rfl; have hc4 : w4.cell? ⟨w.heap.size, 4, none⟩ = some (.slice A4 l4.length c4) := (zK BX.out 4).trans rfl; have hc5 : w4.cell? ⟨w.heap.size, 5, none⟩ = some (.slice A5 l5.length c5) := (zK BX.out 5).trans rfl; go_wp2_with fail; clear hc0 hc1 hc2 hc3 hc4 hc5; refine (markIntSS_calls P5 _ l5 (k + szRows l2 + szRows l3 + l4.length) w0 _ (zz17 HB) (zz13 O5) (zz1b HA) (zz1b HS) HN.out.2.2).mono ?_; rintro e w5 ⟨rfl, ho, hb, hk⟩; have N2 := zA (Kd.S_kept (zz13 O2) hk (fun q h1_ h2_ => ((HD.out q).1 h1_).2.2.1 h2_)); have N3 := zA (Kd.S_kept (zz13 O3) hk (fun q h1_ h2_ => ((HD.out q).2.1 h1_).2.2.1 h2_)); have N4 := zA (Kd.R_kept (by repeat (first | exact O4.out | apply zT)) hk (fun q h1_ h2_ => ((HD.out q).2.2.1 h1_).2.2.1 h2_)); have N5 := zA ho; have NX := zA (blk_kept BX.out hk (fun h_ => absurd ((HD.out _).2.2.2 h_).2.2.2 (Nat.lt_irrefl _))); have NK := zA (HK.out.then_ hk (fun q hq => .inl ((fun h_ => .inr (.inr (.inr h_))) hq))); have NB := zA hb; clear ho hb hk O2 O3 O4 O5 HB BX HK; have O2 := N2; have O3 := N3; have O4 := N4; have O5 := N5; have BX := NX; have HK := NK; have HB := NB; clear N2 N3 N4 N5 NX NK NB; go_wp2; go_ret; exact ⟨by show Ending.returned (Value.int .i64 (k + szRows l2 + szRows l3 + l4.length + szRows l5)) = _; rw [show (k + ((szRows l2 + szRows l3 + l4.length + szRows l5 : Nat) : Int)) = k + szRows l2 + szRows l3 + l4.length + szRows l5 by omega], O2.out, O3.out, O4.out, O5.out, HB.out, HK.out⟩
end Go.Proofs.YtkocahlifffgjaaGreat.P
namespace Go.Proofs.YtkocahlifffgjaaGreat.P
open Go.RowKit Go.Proofs.YtkocahlifffgjaaGreatW.PrintWords Go.Proofs.YtkocahlifffgjaaGreatW.PrintLast Go.Proofs.YtkocahlifffgjaaGreatW.PrintMore
attribute [local go_sem] max2_int min2_int max_two min_two max_three min_three max_four min_four
set_option linter.unusedVariables false
set_option linter.unusedSimpArgs false
def laws_eqChart.f (k : Nat) (af : Int) (bT : List (List Int)) (bp : Int) (bd : List (List Int)) : Option (Bool) := if af = bp then ((laws_eqIntSS.f k bT bd).bind fun bC => (if bC = true then (some true) else (some false))) else (some false)
set_option maxHeartbeats 8000000 in
set_option maxRecDepth 100000 in
theorem laws_eqChart.calls (k : Nat) (af : Int) (dp : Option Addr) (dq : Nat) (bT : List (List Int)) (bp : Int) (cu : Option Addr) (cv : Nat) (bd : List (List Int)) (r : Bool) (w : World) (gQ : Kd.C (Kd.slice 3 (Kd.int .i64)) w dp bT.length bT) (gR : bT.length ≤ dq) (fC : Kd.C (Kd.slice 3 (Kd.int .i64)) w cu bd.length bd) (fD : bd.length ≤ cv) (h : laws_eqChart.f k af bT bp bd = some r) :
 Calls Tryz.prog 14 #[.agg #[.int .i64 af, .slice dp bT.length dq], .agg #[.int .i64 bp, .slice cu bd.length cv]] w fun e w' => e = .returned (.bool r) ∧ Below w.heap.size w w' := by
 have hu34 := Tryz.underlying34; have gn := zA gQ; have iv := zA gR; clear gQ gR; have dS := zA fC; have eA := zA fD; clear fC fD; have HB := zA (Below.refl w.heap.size w); have H : (if af = bp then ((laws_eqIntSS.f k bT bd).bind fun bC => (if bC = true then (some true) else (some false))) else (some false)) = some r := h; clear h; by_cases c3 : af = bp
 · rw [if_pos c3] at H; have cL : (af == bp) = true := beq_iff_eq.mpr c3; have fp : (af != bp) = false := bne_eq_false_iff_eq.mpr c3; clear c3; replace H := Option.bind_eq_some_iff.mp H; obtain ⟨bC, ik, H⟩ := H; have A4 := zA ik; clear ik; by_cases c5 : bC = true
   · subst c5; rw [if_pos rfl] at H; obtain rfl := Option.some.inj H; go_enter Tryz.func14, Tryz.ntmps14; go_wp2_with (first | ((with_reducible refine gate_dst (N := 2) rfl ?_); refine box_event ?hg (N := 2) ?hd (cs := #[.int .i64 af, .slice dp bT.length dq]) (t := 34) ?hr ?_; (case hd => rfl); (case hg => rfl); (case hr => first | (go_simp; done) | (go_simp; rfl)); intro ad hg w6 hbox hb; have aa := zA (hbox); have b0 := zA ((by rw [hg]; exact (zF (zz0u HB)) : w.heap.size ≤ ad)); have ac := zA ((by rw [hg]; exact (zF (zz0u HB)) : w.heap.size ≤ ad)); replace HB := zA (zG (zz0u HB) hb); clear hb hbox hg) | ((with_reducible refine gate_dst (N := 3) rfl ?_); refine box_event ?hg (N := 3) ?hd (cs := #[.int .i64 bp, .slice cu bd.length cv]) (t := 34) ?hr ?_; (case hd => rfl); (case hg => rfl); (case hr => first | (go_simp; done) | (go_simp; rfl)); intro ak hg w7 hbox hb; have ah := zA (hbox); have db := zA ((by rw [hg]; exact (zF (zz0l HB ac)) : w.heap.size ≤ ak)); have ap := zA ((by rw [hg]; exact (zF (zz0l HB ac)) : w.heap.size ≤ ak)); replace HB := zA (zG (zz0l HB ac) hb); have aT := zA ((by rw [hg]; exact Nat.ne_of_lt (blk_lt (g := ad) (o := .cells #[.int .i64 af, .slice dp bT.length dq] 34 (0, 0)) (zz0w aa)) : ad ≠ ak)); have aU := zA ((by rw [hg]; exact Nat.ne_of_gt (blk_lt (g := ad) (o := .cells #[.int .i64 af, .slice dp bT.length dq] 34 (0, 0)) (zz0w aa)) : ak ≠ ad)); replace aa := zA (zMp aa.out hb); clear hb hbox hg; have qD := aT.out; have qE := aU.out; obtain ⟨hx, hz⟩ := zk2 aa.out; obtain ⟨fa, fb⟩ := zk2 ah.out; have iY := zL ah.out 1) | ((with_reducible refine gate_callee (f := 34) rfl ?_); refine goesL_ (some 14) rfl rfl Tryz.func34 zz1h rfl #[.slice dp bT.length dq, .slice cu bd.length cv] rfl zz0h ?_; (with_reducible refine (laws_eqIntSS.calls k _ _ bT _ _ bd true _ ?al ?am ?aK ?aM A4.out).mono ?_); (case al => exact (zz0x gn HB)); (case am => exact iv.out); (case aK => exact (zz0x dS HB)); (case aM => exact eA.out); rintro e w' ⟨rfl, ⟨nd, rfl⟩⟩; refine ⟨_, rfl, ?_⟩)); go_ret; exact ⟨zz0v, zz0i HB ac ap⟩
   · replace c5 := Bool.eq_false_iff.mpr c5; subst c5; rw [if_neg zFt] at H; obtain rfl := Option.some.inj H; go_enter Tryz.func14, Tryz.ntmps14; go_wp2_with (first | ((with_reducible refine gate_dst (N := 2) rfl ?_); refine box_event ?hg (N := 2) ?hd (cs := #[.int .i64 af, .slice dp bT.length dq]) (t := 34) ?hr ?_; (case hd => rfl); (case hg => rfl); (case hr => first | (go_simp; done) | (go_simp; rfl)); intro ad hg iH hbox hb; have aa := zA (hbox); have b0 := zA ((by rw [hg]; exact (zF (zz0u HB)) : w.heap.size ≤ ad)); have ac := zA ((by rw [hg]; exact (zF (zz0u HB)) : w.heap.size ≤ ad)); replace HB := zA (zG (zz0u HB) hb); clear hb hbox hg) | ((with_reducible refine gate_dst (N := 3) rfl ?_); refine box_event ?hg (N := 3) ?hd (cs := #[.int .i64 bp, .slice cu bd.length cv]) (t := 34) ?hr ?_; (case hd => rfl); (case hg => rfl); (case hr => first | (go_simp; done) | (go_simp; rfl)); intro ak hg kf hbox hb; have ah := zA (hbox); have db := zA ((by rw [hg]; exact (zF (zz0l HB ac)) : w.heap.size ≤ ak)); have ap := zA ((by rw [hg]; exact (zF (zz0l HB ac)) : w.heap.size ≤ ak)); replace HB := zA (zG (zz0l HB ac) hb); have aT := zA ((by rw [hg]; exact Nat.ne_of_lt (blk_lt (g := ad) (o := .cells #[.int .i64 af, .slice dp bT.length dq] 34 (0, 0)) (zz0w aa)) : ad ≠ ak)); have aU := zA ((by rw [hg]; exact Nat.ne_of_gt (blk_lt (g := ad) (o := .cells #[.int .i64 af, .slice dp bT.length dq] 34 (0, 0)) (zz0w aa)) : ak ≠ ad)); replace aa := zA (zMp aa.out hb); clear hb hbox hg; have hnb13 := aT.out; have hnc13 := aU.out; obtain ⟨iZ, i0⟩ := zk2 aa.out; obtain ⟨k6, k7⟩ := zk2 ah.out; have hfz15_1 := zL ah.out 1) | ((with_reducible refine gate_callee (f := 34) rfl ?_); refine goesL_ (some 14) rfl rfl Tryz.func34 zz1h rfl #[.slice dp bT.length dq, .slice cu bd.length cv] rfl zz0h ?_; (with_reducible refine (laws_eqIntSS.calls k _ _ bT _ _ bd false _ ?al ?am ?aK ?aM A4.out).mono ?_); (case al => exact (zz0x gn HB)); (case am => exact iv.out); (case aK => exact (zz0x dS HB)); (case aM => exact eA.out); rintro e w' ⟨rfl, ⟨nd, rfl⟩⟩; refine ⟨_, rfl, ?_⟩)); go_ret; exact ⟨zz0v, zz0i HB ac ap⟩
 · rw [if_neg c3] at H; have cL : (af == bp) = false := beq_eq_false_iff_ne.mpr c3; have fp : (af != bp) = true := bne_iff_ne.mpr c3; obtain rfl := Option.some.inj H; go_enter Tryz.func14, Tryz.ntmps14; go_wp2_with (first | ((with_reducible refine gate_dst (N := 2) rfl ?_); refine box_event ?hg (N := 2) ?hd (cs := #[.int .i64 af, .slice dp bT.length dq]) (t := 34) ?hr ?_; (case hd => rfl); (case hg => rfl); (case hr => first | (go_simp; done) | (go_simp; rfl)); intro ad hg qF hbox hb; have aa := zA (hbox); have b0 := zA ((by rw [hg]; exact (zF (zz0u HB)) : w.heap.size ≤ ad)); have ac := zA ((by rw [hg]; exact (zF (zz0u HB)) : w.heap.size ≤ ad)); replace HB := zA (zG (zz0u HB) hb); clear hb hbox hg) | ((with_reducible refine gate_dst (N := 3) rfl ?_); refine box_event ?hg (N := 3) ?hd (cs := #[.int .i64 bp, .slice cu bd.length cv]) (t := 34) ?hr ?_; (case hd => rfl); (case hg => rfl); (case hr => first | (go_simp; done) | (go_simp; rfl)); intro ak hg qm hbox hb; have ah := zA (hbox); have db := zA ((by rw [hg]; exact (zF (zz0l HB ac)) : w.heap.size ≤ ak)); have ap := zA ((by rw [hg]; exact (zF (zz0l HB ac)) : w.heap.size ≤ ak)); replace HB := zA (zG (zz0l HB ac) hb); have aT := zA ((by rw [hg]; exact Nat.ne_of_lt (blk_lt (g := ad) (o := .cells #[.int .i64 af, .slice dp bT.length dq] 34 (0, 0)) (zz0w aa)) : ad ≠ ak)); have aU := zA ((by rw [hg]; exact Nat.ne_of_gt (blk_lt (g := ad) (o := .cells #[.int .i64 af, .slice dp bT.length dq] 34 (0, 0)) (zz0w aa)) : ak ≠ ad)); replace aa := zA (zMp aa.out hb); clear hb hbox hg; have hnb18 := aT.out; have hnc18 := aU.out; obtain ⟨i1, i2⟩ := zk2 aa.out; obtain ⟨gl, gm⟩ := zk2 ah.out; have kV := zL ah.out 1)); go_ret; exact ⟨zz0v, zz0i HB ac ap⟩
def laws_heldChart.f (k : Nat) (af : Int) (bT : List (List Int)) (a1 : Int) : Option (Int) := (laws_heldIntSS.f k bT a1).bind fun aE => (if aE < 0 then (some (-1)) else (some aE))
set_option maxHeartbeats 8000000 in
set_option maxRecDepth 100000 in
theorem laws_heldChart.calls (k : Nat) (af : Int) (dp : Option Addr) (dq : Nat) (bT : List (List Int)) (a1 : Int) (r : Int) (w : World) (gQ : Kd.C (Kd.slice 3 (Kd.int .i64)) w dp bT.length bT) (gR : bT.length ≤ dq) (h : laws_heldChart.f k af bT a1 = some r) :
 Calls Tryz.prog 21 #[.agg #[.int .i64 af, .slice dp bT.length dq], .int .i64 a1] w fun e w' => e = .returned (.int .i64 r) ∧ Below w.heap.size w w' := by
 have hu34 := Tryz.underlying34; have gn := zA gQ; have iv := zA gR; clear gQ gR; have HB := zA (Below.refl w.heap.size w); have H : ((laws_heldIntSS.f k bT a1).bind fun aE => (if aE < 0 then (some (-1)) else (some aE))) = some r := h; clear h; replace H := Option.bind_eq_some_iff.mp H; obtain ⟨aE, f4, H⟩ := H; have A3 := zA f4; clear f4; by_cases c4 : aE < 0
 · rw [if_pos c4] at H; have cZ := decide_eq_true c4; clear c4; obtain rfl := Option.some.inj H; go_enter Tryz.func21, Tryz.ntmps21; go_wp2_with (first | ((with_reducible refine gate_dst (N := 2) rfl ?_); refine box_event ?hg (N := 2) ?hd (cs := #[.int .i64 af, .slice dp bT.length dq]) (t := 34) ?hr ?_; (case hd => rfl); (case hg => rfl); (case hr => first | (go_simp; done) | (go_simp; rfl)); intro ad hg w5 hbox hb; have aa := zA (hbox); have b0 := zA ((by rw [hg]; exact (zF (zz0u HB)) : w.heap.size ≤ ad)); have ac := zA ((by rw [hg]; exact (zF (zz0u HB)) : w.heap.size ≤ ad)); replace HB := zA (zG (zz0u HB) hb); clear hb hbox hg; obtain ⟨f6, f7⟩ := zk2 aa.out; have hfz6_1 := zL aa.out 1) | ((with_reducible refine gate_callee (f := 38) rfl ?_); refine goesL_ (some 8) rfl rfl Tryz.func38 zz1h rfl #[.slice dp bT.length dq, .int .i64 a1] rfl zz0h ?_; (with_reducible refine (laws_heldIntSS.calls k _ _ bT a1 aE _ ?al ?am A3.out).mono ?_); (case al => exact (zz0x gn HB)); (case am => exact iv.out); rintro e w' ⟨rfl, ⟨nd, rfl⟩⟩; refine ⟨_, rfl, ?_⟩)); go_ret; exact ⟨zz0v, zz0l HB ac⟩
 · rw [if_neg c4] at H; have cZ := decide_eq_false c4; clear c4; obtain rfl := Option.some.inj H; go_enter Tryz.func21, Tryz.ntmps21; go_wp2_with (first | ((with_reducible refine gate_dst (N := 2) rfl ?_); refine box_event ?hg (N := 2) ?hd (cs := #[.int .i64 af, .slice dp bT.length dq]) (t := 34) ?hr ?_; (case hd => rfl); (case hg => rfl); (case hr => first | (go_simp; done) | (go_simp; rfl)); intro ad hg w7 hbox hb; have aa := zA (hbox); have b0 := zA ((by rw [hg]; exact (zF (zz0u HB)) : w.heap.size ≤ ad)); have ac := zA ((by rw [hg]; exact (zF (zz0u HB)) : w.heap.size ≤ ad)); replace HB := zA (zG (zz0u HB) hb); clear hb hbox hg; obtain ⟨fE, fF⟩ := zk2 aa.out; have hfz8_1 := zL aa.out 1) | ((with_reducible refine gate_callee (f := 38) rfl ?_); refine goesL_ (some 8) rfl rfl Tryz.func38 zz1h rfl #[.slice dp bT.length dq, .int .i64 a1] rfl zz0h ?_; (with_reducible refine (laws_heldIntSS.calls k _ _ bT a1 aE _ ?al ?am A3.out).mono ?_); (case al => exact (zz0x gn HB)); (case am => exact iv.out); rintro e w' ⟨rfl, ⟨nd, rfl⟩⟩; refine ⟨_, rfl, ?_⟩)); go_ret; exact ⟨zz0v, zz0l HB ac⟩
end Go.Proofs.YtkocahlifffgjaaGreat.P
namespace Go.Proofs.YtkocahlifffgjaaGreat.P
open Go.RowKit Go.Proofs.YtkocahlifffgjaaGreatW.PrintWords Go.Proofs.YtkocahlifffgjaaGreatW.PrintLast Go.Proofs.YtkocahlifffgjaaGreatW.PrintMore
set_option linter.unusedVariables false
set_option linter.unusedSimpArgs false
theorem heldChart_calls (a0 : Int) (A : Option Addr) (c : Nat) (l : List (List Int)) (a : Int) (w : World) (hr : Kd.C (Kd.slice 3 (Kd.int .i64)) w A (mkRows l a).length (mkRows l a)) (hc : l.length ≤ c) (ha : 0 ≤ a) (hs : a + szRows l ≤ 1152921504606846976) (hlen : l.length ≤ 1152921504606846976) :
 Calls Tryz.prog 21 #[.agg #[.int .i64 a0, .slice A l.length c], .int .i64 a] w fun e w' => e = .returned (.int .i64 (a + szRows l)) ∧ Below w.heap.size w w' := by
 obtain ⟨K, h⟩ := heldIntSS_ev l hlen a ha hs; dsimp only at h; have hk : laws_heldChart.f K a0 (mkRows l a) a = some (a + szRows l) := by
  unfold laws_heldChart.f; rw [h K (Nat.le_refl _)]; simp only [Option.bind_some]; rw [if_neg zz1l]
 have H := laws_heldChart.calls K a0 A c (mkRows l a) a (a + szRows l) w hr (by rw [mkRows_len]; exact hc) hk; rw [mkRows_len] at H; exact H
theorem eqChart_ev (n : Int) (l : List (List Int)) (hlen : l.length ≤ 1048576) (hs : ∀ i : Nat, i < l.length → (rd_L1 l i).length ≤ 1048576) : Ev (fun k => laws_eqChart.f k n l n l) true := by
 obtain ⟨K, h⟩ := eqIntSS_ev l hlen hs; dsimp only at h; refine ⟨K, fun k hk => ?_⟩; dsimp only; unfold laws_eqChart.f; rw [if_pos rfl, h k hk]; rfl
set_option maxHeartbeats 4000000 in
set_option maxRecDepth 100000 in
theorem markChart_calls (P0_ : Nat → Prop) (a0 : Int) (u : Value) (l0 : List (List Int)) (k : Int) (w0 w : World) (hB : Below w0.heap.size w0 w) (ho0 : Kd.S (Kd.slice 3 (Kd.int .i64)) 23 w w0.heap.size P0_ u l0)
 (ha : 0 ≤ k) (hs : k + szRows l0 ≤ 1152921504606846976) (hlen : l0.length ≤ 1152921504606846976) :
 Calls Tryz.prog 16 #[.agg #[.int .i64 a0, u], .int .i64 k] w fun e w' => e = .returned (.int .i64 (k + szRows l0)) ∧ Kd.S (Kd.slice 3 (Kd.int .i64)) 23 w' w0.heap.size P0_ u (mkRows l0 k) ∧ Below w0.heap.size w0 w' ∧ Kept w w' P0_ := by
 obtain ⟨A, c, eu⟩ := Kd.R_slice (Kd.S_R ho0); subst eu; have hu := Tryz.underlying34; have HO := zA ho0; have HB := zA hB; have HS := zA hs; have HA := zA ha; have HL := zA hlen; clear ho0 hB hs ha hlen; go_enter Tryz.func16, Tryz.ntmps16; go_wp2_with (go_at_call 35; refine (markIntSS_calls P0_ _ l0 k w0 _ (zz17 HB) (zz13 HO) HA.out HS.out HL.out).mono ?_; rintro e w' ⟨rfl, ho, hb, hk⟩; have NB := zA hb; have NO := zA ho; have NK := zA hk; clear ho hb hk); go_ret; exact ⟨rfl, NO.out, NB.out, (Kept.alloc (Kept.refl _ _) _).then_ NK.out (fun q hq => .inl hq)⟩
end Go.Proofs.YtkocahlifffgjaaGreat.P
namespace Go.Proofs.YtkocahlifffgjaaGreat.P
open Go.RowKit Go.Proofs.YtkocahlifffgjaaGreatW.PrintWords Go.Proofs.YtkocahlifffgjaaGreatW.PrintLast Go.Proofs.YtkocahlifffgjaaGreatW.PrintMore
attribute [local go_sem] max2_int min2_int max_two min_two max_three min_three max_four min_four
set_option linter.unusedVariables false
set_option linter.unusedSimpArgs false
def cmp_isNaN_int.f (a0 : Int) : Option (Bool) := some (a0 != a0)
set_option maxHeartbeats 8000000 in
set_option maxRecDepth 100000 in
theorem cmp_isNaN_int.calls (a0 : Int) (r : Bool) (w : World) (h : cmp_isNaN_int.f a0 = some r) :
 Calls Tryz.prog 81 #[.int .i64 a0] w fun e w' => e = .returned (.bool r) ∧ Drawn0 w w' := by
 have H : (some (a0 != a0)) = some r := h; clear h; obtain rfl := Option.some.inj H; go_enter Tryz.func81, Tryz.ntmps81; go_wp2; go_ret; exact ⟨zz12, zz10⟩
def cmp_Compare_int.f (a0 : Int) (a1 : Int) : Option (Int) := (cmp_isNaN_int.f a0).bind fun dQ => ((cmp_isNaN_int.f a1).bind fun aE => (if dQ = true then (if aE = true then (some 0) else (some (-1))) else (if aE = true then (some 1) else (if a0 < a1 then (some (-1)) else (if a0 > a1 then (some 1) else (some 0))))))
set_option maxHeartbeats 8000000 in
set_option maxRecDepth 100000 in
theorem cmp_Compare_int.calls (a0 : Int) (a1 : Int) (r : Int) (w : World) (h : cmp_Compare_int.f a0 a1 = some r) :
 Calls Tryz.prog 72 #[.int .i64 a0, .int .i64 a1] w fun e w' => e = .returned (.int .i64 r) ∧ Drawn0 w w' := by
 have H : ((cmp_isNaN_int.f a0).bind fun dQ => ((cmp_isNaN_int.f a1).bind fun aE => (if dQ = true then (if aE = true then (some 0) else (some (-1))) else (if aE = true then (some 1) else (if a0 < a1 then (some (-1)) else (if a0 > a1 then (some 1) else (some 0))))))) = some r := h; clear h; replace H := Option.bind_eq_some_iff.mp H; obtain ⟨dQ, f4, H⟩ := H; have A3 := zA f4; clear f4; replace H := Option.bind_eq_some_iff.mp H; obtain ⟨aE, ik, H⟩ := H; have A4 := zA ik; clear ik; by_cases c5 : dQ = true
 · subst c5; rw [if_pos rfl] at H; by_cases c6 : aE = true
   · subst c6; rw [if_pos rfl] at H; obtain rfl := Option.some.inj H; go_enter Tryz.func72, Tryz.ntmps72; go_wp2_with (first | ((with_reducible refine gate_callee (f := 81) rfl ?_); refine goesL_ (some 8) rfl rfl Tryz.func81 zz1h rfl #[.int .i64 a0] rfl zz0h ?_; (with_reducible refine (cmp_isNaN_int.calls a0 true _ A3.out).mono ?_); rintro e w' ⟨rfl, ⟨nd, rfl⟩⟩; refine ⟨_, rfl, ?_⟩) | ((with_reducible refine gate_callee (f := 81) rfl ?_); refine goesL_ (some 10) rfl rfl Tryz.func81 zz1h rfl #[.int .i64 a1] rfl zz0h ?_; (with_reducible refine (cmp_isNaN_int.calls a1 true _ A4.out).mono ?_); rintro e w' ⟨rfl, ⟨nd, rfl⟩⟩; refine ⟨_, rfl, ?_⟩)); go_ret; exact ⟨zz12, zz10⟩
   · replace c6 := Bool.eq_false_iff.mpr c6; subst c6; rw [if_neg zFt] at H; obtain rfl := Option.some.inj H; go_enter Tryz.func72, Tryz.ntmps72; go_wp2_with (first | ((with_reducible refine gate_callee (f := 81) rfl ?_); refine goesL_ (some 8) rfl rfl Tryz.func81 zz1h rfl #[.int .i64 a0] rfl zz0h ?_; (with_reducible refine (cmp_isNaN_int.calls a0 true _ A3.out).mono ?_); rintro e w' ⟨rfl, ⟨nd, rfl⟩⟩; refine ⟨_, rfl, ?_⟩) | ((with_reducible refine gate_callee (f := 81) rfl ?_); refine goesL_ (some 10) rfl rfl Tryz.func81 zz1h rfl #[.int .i64 a1] rfl zz0h ?_; (with_reducible refine (cmp_isNaN_int.calls a1 false _ A4.out).mono ?_); rintro e w' ⟨rfl, ⟨nd, rfl⟩⟩; refine ⟨_, rfl, ?_⟩)); go_ret; exact ⟨zz12, zz10⟩
 · replace c5 := Bool.eq_false_iff.mpr c5; subst c5; rw [if_neg zFt] at H; by_cases c7 : aE = true
   · subst c7; rw [if_pos rfl] at H; obtain rfl := Option.some.inj H; go_enter Tryz.func72, Tryz.ntmps72; go_wp2_with (first | ((with_reducible refine gate_callee (f := 81) rfl ?_); refine goesL_ (some 8) rfl rfl Tryz.func81 zz1h rfl #[.int .i64 a0] rfl zz0h ?_; (with_reducible refine (cmp_isNaN_int.calls a0 false _ A3.out).mono ?_); rintro e w' ⟨rfl, ⟨nd, rfl⟩⟩; refine ⟨_, rfl, ?_⟩) | ((with_reducible refine gate_callee (f := 81) rfl ?_); refine goesL_ (some 10) rfl rfl Tryz.func81 zz1h rfl #[.int .i64 a1] rfl zz0h ?_; (with_reducible refine (cmp_isNaN_int.calls a1 true _ A4.out).mono ?_); rintro e w' ⟨rfl, ⟨nd, rfl⟩⟩; refine ⟨_, rfl, ?_⟩)); go_ret; exact ⟨zz12, zz10⟩
   · replace c7 := Bool.eq_false_iff.mpr c7; subst c7; rw [if_neg zFt] at H; by_cases c8 : a0 < a1
     · rw [if_pos c8] at H; have d3 := decide_eq_true c8; clear c8; obtain rfl := Option.some.inj H; go_enter Tryz.func72, Tryz.ntmps72; go_wp2_with (first | ((with_reducible refine gate_callee (f := 81) rfl ?_); refine goesL_ (some 8) rfl rfl Tryz.func81 zz1h rfl #[.int .i64 a0] rfl zz0h ?_; (with_reducible refine (cmp_isNaN_int.calls a0 false _ A3.out).mono ?_); rintro e w' ⟨rfl, ⟨nd, rfl⟩⟩; refine ⟨_, rfl, ?_⟩) | ((with_reducible refine gate_callee (f := 81) rfl ?_); refine goesL_ (some 10) rfl rfl Tryz.func81 zz1h rfl #[.int .i64 a1] rfl zz0h ?_; (with_reducible refine (cmp_isNaN_int.calls a1 false _ A4.out).mono ?_); rintro e w' ⟨rfl, ⟨nd, rfl⟩⟩; refine ⟨_, rfl, ?_⟩)); go_ret; exact ⟨zz12, zz10⟩
     · rw [if_neg c8] at H; have d3 := decide_eq_false c8; clear c8; by_cases c9 : a0 > a1
       · rw [if_pos c9] at H; have eW : decide (a1 < a0) = true := decide_eq_true c9; clear c9; obtain rfl := Option.some.inj H; go_enter Tryz.func72, Tryz.ntmps72; go_wp2_with (first | ((with_reducible refine gate_callee (f := 81) rfl ?_); refine goesL_ (some 8) rfl rfl Tryz.func81 zz1h rfl #[.int .i64 a0] rfl zz0h ?_; (with_reducible refine (cmp_isNaN_int.calls a0 false _ A3.out).mono ?_); rintro e w' ⟨rfl, ⟨nd, rfl⟩⟩; refine ⟨_, rfl, ?_⟩) | ((with_reducible refine gate_callee (f := 81) rfl ?_); refine goesL_ (some 10) rfl rfl Tryz.func81 zz1h rfl #[.int .i64 a1] rfl zz0h ?_; (with_reducible refine (cmp_isNaN_int.calls a1 false _ A4.out).mono ?_); rintro e w' ⟨rfl, ⟨nd, rfl⟩⟩; refine ⟨_, rfl, ?_⟩)); go_ret; exact ⟨zz12, zz10⟩
       · rw [if_neg c9] at H; have eW : decide (a1 < a0) = false := decide_eq_false c9; clear c9; obtain rfl := Option.some.inj H; go_enter Tryz.func72, Tryz.ntmps72; go_wp2_with (first | ((with_reducible refine gate_callee (f := 81) rfl ?_); refine goesL_ (some 8) rfl rfl Tryz.func81 zz1h rfl #[.int .i64 a0] rfl zz0h ?_; (with_reducible refine (cmp_isNaN_int.calls a0 false _ A3.out).mono ?_); rintro e w' ⟨rfl, ⟨nd, rfl⟩⟩; refine ⟨_, rfl, ?_⟩) | ((with_reducible refine gate_callee (f := 81) rfl ?_); refine goesL_ (some 10) rfl rfl Tryz.func81 zz1h rfl #[.int .i64 a1] rfl zz0h ?_; (with_reducible refine (cmp_isNaN_int.calls a1 false _ A4.out).mono ?_); rintro e w' ⟨rfl, ⟨nd, rfl⟩⟩; refine ⟨_, rfl, ?_⟩)); go_ret; exact ⟨zz12, zz10⟩
def slices_Compare_int_int.l0 : Nat → List Int → List Int → List Int → Int → Int → Option (Int)
 | 0, _, _, _, _, _ => none
 | k + 1, x0, x1, x9, l9, en => if en < l9 then (if 0 ≤ en then (if en < (x9.length : Int) then (if en ≥ (x1.length : Int) then (some 1) else (if en < (x1.length : Int) then ((cmp_Compare_int.f (rd x9 en) (rd x1 en)).bind fun bC => (if bC = 0 then (slices_Compare_int_int.l0 k x0 x1 x9 l9 (wrap64 (en + 1))) else (some bC))) else (none))) else (none)) else (none)) else (if (x0.length : Int) < (x1.length : Int) then (some (-1)) else (some 0))
def slices_Compare_int_int.f (k : Nat) (l0 : List Int) (l1 : List Int) : Option (Int) := slices_Compare_int_int.l0 k l0 l1 l0 (l0.length : Int) 0
set_option maxHeartbeats 8000000 in
set_option maxRecDepth 100000 in
theorem slices_Compare_int_int.calls (k : Nat) (A0 : Option Addr) (c0 : Nat) (l0 : List Int) (A1 : Option Addr) (c1 : Nat) (l1 : List Int) (r : Int) (w : World) (dA : Kd.C (Kd.int .i64) w A0 l0.length l0) (dB : l0.length ≤ c0) (eJ : Kd.C (Kd.int .i64) w A1 l1.length l1) (eK : l1.length ≤ c1) (h : slices_Compare_int_int.f k l0 l1 = some r) :
 Calls Tryz.prog 53 #[.slice A0 l0.length c0, .slice A1 l1.length c1] w fun e w' => e = .returned (.int .i64 r) ∧ Drawn0 w w' := by
 have dm := zA dA; have im := zA dB; clear dA dB; have eT := zA eJ; have g5 := zA eK; clear eJ eK; have H : (slices_Compare_int_int.l0 k l0 l1 l0 (l0.length : Int) 0) = some r := h; clear h; have H' := zA H; clear H; go_enter Tryz.func53, Tryz.ntmps53; go_wp2; go_loopg [11] k (fun kq kg w' => ∃ (aC : Int), kg = .int .i64 aC ∧ Aside0 (slices_Compare_int_int.l0 kq l0 l1 l0 (l0.length : Int) aC = some r) ∧ Aside0 (kq ≤ k) ∧ Drawn0 w w')
 case atStart => exact ⟨(0), zz12, H', ⟨Nat.le_refl _⟩, zz10⟩
 case round =>
  clear H'; (try clear c1); (try clear p2); obtain ⟨aC, rfl, HA, bw, ⟨m1, rfl⟩⟩ := hrel; cases gk with
  | zero => exact absurd HA.out (by simp [slices_Compare_int_int.l0])
  | succ k1 =>
   have H := HA.out; clear HA; simp only [slices_Compare_int_int.l0] at H; by_cases c3 : aC < (l0.length : Int)
   · rw [if_pos c3] at H; have cL := decide_eq_true c3; clear c3; replace H := zIn H; obtain ⟨c4, H⟩ := H; have cZ : decide (0 ≤ aC) = true := decide_eq_true c4; clear c4; replace H := zIn H; obtain ⟨c5, H⟩ := H; have eQ : decide (aC < (l0.length : Int)) = true := decide_eq_true c5; clear c5; by_cases c6 : aC ≥ (l1.length : Int)
     · rw [if_pos c6] at H; have dk : decide ((l1.length : Int) ≤ aC) = true := decide_eq_true c6; clear c6; obtain rfl := Option.some.inj H; have aH : 0 ≤ (aC : Int) := of_decide_eq_true zz1g; have aI : aC < (l0.length : Int) := of_decide_eq_true zz1g; obtain ⟨bf, bx, a9⟩ := Kd.at_int dm.out aC aH aI; cases bx; replace aH := eq_true aH; replace aI := eq_true aI; go_wp2; go_ret; exact ⟨zz12, zz10⟩
     · rw [if_neg c6] at H; have dk : decide ((l1.length : Int) ≤ aC) = false := decide_eq_false c6; clear c6; replace H := zIn H; obtain ⟨c7, H⟩ := H; have dF : decide (aC < (l1.length : Int)) = true := decide_eq_true c7; clear c7; replace H := Option.bind_eq_some_iff.mp H; obtain ⟨bC, qx, H⟩ := H; have A8 := zA qx; clear qx; by_cases c9 : bC = 0
       · rw [if_pos c9] at H; have eW : (bC == 0) = true := beq_iff_eq.mpr c9; have qG : (bC != 0) = false := bne_eq_false_iff_eq.mpr c9; clear c9; have H' := zA H; clear H; have aH : 0 ≤ (aC : Int) := of_decide_eq_true zz1g; have aI : aC < (l0.length : Int) := of_decide_eq_true zz1g; obtain ⟨bf, bx, a9⟩ := Kd.at_int dm.out aC aH aI; cases bx; replace aH := eq_true aH; replace aI := eq_true aI; have b1 : 0 ≤ (aC : Int) := of_decide_eq_true zz1g; have b2 : aC < (l1.length : Int) := of_decide_eq_true zz1g; obtain ⟨dG, dl, b9⟩ := Kd.at_int eT.out aC b1 b2; cases dl; replace b1 := eq_true b1; replace b2 := eq_true b2; go_wp2_with (first | ((with_reducible refine gate_callee (f := 72) rfl ?_); refine goesL_ (some 26) rfl rfl Tryz.func72 zz1h rfl #[.int .i64 (rd l0 aC), .int .i64 (rd l1 aC)] rfl zz0h ?_; (with_reducible refine (cmp_Compare_int.calls (rd l0 aC) (rd l1 aC) bC _ A8.out).mono ?_); rintro e w' ⟨rfl, ⟨nd, rfl⟩⟩; refine ⟨_, rfl, ?_⟩))
         go_roundg k1
         case measure => have := bw.out; omega
         case rel => exact ⟨(wrap64 (aC + 1)), zz12, H', ⟨zz1b bw⟩, zz10⟩
       · rw [if_neg c9] at H; have eW : (bC == 0) = false := beq_eq_false_iff_ne.mpr c9; have qG : (bC != 0) = true := bne_iff_ne.mpr c9; obtain rfl := Option.some.inj H; have aH : 0 ≤ (aC : Int) := of_decide_eq_true zz1g; have aI : aC < (l0.length : Int) := of_decide_eq_true zz1g; obtain ⟨bf, bx, a9⟩ := Kd.at_int dm.out aC aH aI; cases bx; replace aH := eq_true aH; replace aI := eq_true aI; have b1 : 0 ≤ (aC : Int) := of_decide_eq_true zz1g; have b2 : aC < (l1.length : Int) := of_decide_eq_true zz1g; obtain ⟨dG, dl, b9⟩ := Kd.at_int eT.out aC b1 b2; cases dl; replace b1 := eq_true b1; replace b2 := eq_true b2; go_wp2_with (first | ((with_reducible refine gate_callee (f := 72) rfl ?_); refine goesL_ (some 26) rfl rfl Tryz.func72 zz1h rfl #[.int .i64 (rd l0 aC), .int .i64 (rd l1 aC)] rfl zz0h ?_; (with_reducible refine (cmp_Compare_int.calls (rd l0 aC) (rd l1 aC) bC _ A8.out).mono ?_); rintro e w' ⟨rfl, ⟨nd, rfl⟩⟩; refine ⟨_, rfl, ?_⟩)); go_ret; exact ⟨zz12, zz10⟩
   · rw [if_neg c3] at H; have cL := decide_eq_false c3; clear c3; by_cases fG : (l0.length : Int) < (l1.length : Int)
     · rw [if_pos fG] at H; have gp := decide_eq_true fG; have od : decide (l0.length < l1.length) = true := decide_eq_true (Int.ofNat_lt.mp fG); clear fG; obtain rfl := Option.some.inj H; go_wp2; go_ret; exact ⟨zz12, zz10⟩
     · rw [if_neg fG] at H; have gp := decide_eq_false fG; have od : decide (l0.length < l1.length) = false := decide_eq_false (fun h => fG (Int.ofNat_lt.mpr h)); clear fG; obtain rfl := Option.some.inj H; go_wp2; go_ret; exact ⟨zz12, zz10⟩
def impl_areRising.l0 : Nat → List Int → Int → List Int → Int → Int → Option (Bool)
 | 0, _, _, _, _, _ => none
 | k + 1, x0, x1, x7, x8, x9 => if x9 < x8 then (if 0 ≤ x9 then (if x9 < (x7.length : Int) then ((impl_in.f (rd x7 x9) 0 (wrap64 (x1 - 1))).bind fun aE => (if aE = true then (if x9 > 0 then (if 0 ≤ (wrap64 (x9 - 1)) then (if (wrap64 (x9 - 1)) < (x0.length : Int) then (if (rd x0 (wrap64 (x9 - 1))) ≥ (rd x7 x9) then (some false) else (impl_areRising.l0 k x0 x1 x7 x8 (wrap64 (x9 + 1)))) else (none)) else (none)) else (impl_areRising.l0 k x0 x1 x7 x8 (wrap64 (x9 + 1)))) else (some false))) else (none)) else (none)) else (some true)
def impl_areRising.f (k : Nat) (l0 : List Int) (a1 : Int) : Option (Bool) := impl_areRising.l0 k l0 a1 l0 (l0.length : Int) 0
set_option maxHeartbeats 8000000 in
set_option maxRecDepth 100000 in
theorem impl_areRising.calls (k : Nat) (A0 : Option Addr) (c0 : Nat) (l0 : List Int) (a1 : Int) (r : Bool) (w : World) (dA : Kd.C (Kd.int .i64) w A0 l0.length l0) (dB : l0.length ≤ c0) (h : impl_areRising.f k l0 a1 = some r) :
 Calls Tryz.prog 49 #[.slice A0 l0.length c0, .int .i64 a1] w fun e w' => e = .returned (.bool r) ∧ Drawn0 w w' := by
 have dm := zA dA; have im := zA dB; clear dA dB; have H : (impl_areRising.l0 k l0 a1 l0 (l0.length : Int) 0) = some r := h; clear h; have H' := zA H; clear H; go_enter Tryz.func49, Tryz.ntmps49; go_wp2; go_loopg [9] k (fun kq v9 w' => ∃ (ca : Int), v9 = .int .i64 ca ∧ Aside0 (impl_areRising.l0 kq l0 a1 l0 (l0.length : Int) ca = some r) ∧ Aside0 (kq ≤ k) ∧ Drawn0 w w')
 case atStart => exact ⟨(0), zz12, H', ⟨Nat.le_refl _⟩, zz10⟩
 case round =>
  clear H'; (try clear p2); obtain ⟨ca, rfl, HA, bw, ⟨m1, rfl⟩⟩ := hrel; cases gk with
  | zero => exact absurd HA.out (by simp [impl_areRising.l0])
  | succ k1 =>
   have H := HA.out; clear HA; simp only [impl_areRising.l0] at H; by_cases c3 : ca < (l0.length : Int)
   · rw [if_pos c3] at H; have cL := decide_eq_true c3; clear c3; replace H := zIn H; obtain ⟨c4, H⟩ := H; have cZ : decide (0 ≤ ca) = true := decide_eq_true c4; clear c4; replace H := zIn H; obtain ⟨c5, H⟩ := H; have eQ : decide (ca < (l0.length : Int)) = true := decide_eq_true c5; clear c5; replace H := Option.bind_eq_some_iff.mp H; obtain ⟨aE, kO, H⟩ := H; have A6 := zA kO; clear kO; by_cases c7 : aE = true
     · subst c7; rw [if_pos rfl] at H; by_cases c8 : ca > 0
       · rw [if_pos c8] at H; have d3 : decide (0 < ca) = true := decide_eq_true c8; clear c8; obtain ⟨ji9, hji9⟩ : ∃ j_ : Int, (wrap64 (ca - 1)) = j_ := ⟨_, rfl⟩
         replace H : (if 0 ≤ (ji9) then (if (ji9) < (l0.length : Int) then (if (rd l0 (ji9)) ≥ (rd l0 ca) then (some false) else (impl_areRising.l0 k1 l0 a1 l0 (l0.length : Int) (wrap64 (ca + 1)))) else (none)) else (none)) = some r := by first | (rw [hji9] at H; exact H) | (simp only [hji9] at H ⊢; exact H)
         (try rw [hji9] at A6); have hji9w : (IntKind.i64.wrap (ca - 1)) = ji9 := (i64_w _).trans hji9; replace H := zIn H; obtain ⟨fG, H⟩ := H; have gp : decide (0 ≤ (ji9)) = true := decide_eq_true fG; clear fG; replace H := zIn H; obtain ⟨fy, H⟩ := H; have hA : decide ((ji9) < (l0.length : Int)) = true := decide_eq_true fy; clear fy; by_cases fN : (rd l0 (ji9)) ≥ (rd l0 ca)
         · rw [if_pos fN] at H; have hC : decide ((rd l0 ca) ≤ (rd l0 (ji9))) = true := decide_eq_true fN; clear fN; obtain rfl := Option.some.inj H; have aH : 0 ≤ (ca : Int) := of_decide_eq_true zz1g; have aI : ca < (l0.length : Int) := of_decide_eq_true zz1g; obtain ⟨bf, bx, a9⟩ := Kd.at_int dm.out ca aH aI; cases bx; replace aH := eq_true aH; replace aI := eq_true aI; go_wp2_with (first | ((with_reducible refine gate_callee (f := 48) rfl ?_); refine goesL_ (some 17) rfl rfl Tryz.func48 zz1h rfl #[.int .i64 (rd l0 ca), .int .i64 0, .int .i64 (wrap64 (a1 - 1))] rfl zz0h ?_; (with_reducible refine (impl_in.calls (rd l0 ca) 0 (wrap64 (a1 - 1)) true _ A6.out).mono ?_); rintro e w' ⟨rfl, ⟨nd, rfl⟩⟩; refine ⟨_, rfl, ?_⟩; have cn : 0 ≤ ((ji9) : Int) := of_decide_eq_true zz1g; have co : (ji9) < (l0.length : Int) := of_decide_eq_true zz1g; obtain ⟨dC, eB, bg⟩ := Kd.at_int dm.out (ji9) cn co; obtain rfl : bf = dC := (by injection eB); replace cn := eq_true cn; replace co := eq_true co)); go_ret; exact ⟨by first | rfl | (simp; done) | (simp only [← hji9] <;> (first | rfl | simp)) | (simp [*]; done), zz10⟩
         · rw [if_neg fN] at H; have hC : decide ((rd l0 ca) ≤ (rd l0 (ji9))) = false := decide_eq_false fN; clear fN; have H' := zA H; clear H; have aH : 0 ≤ (ca : Int) := of_decide_eq_true zz1g; have aI : ca < (l0.length : Int) := of_decide_eq_true zz1g; obtain ⟨bf, bx, a9⟩ := Kd.at_int dm.out ca aH aI; cases bx; replace aH := eq_true aH; replace aI := eq_true aI; go_wp2_with (first | ((with_reducible refine gate_callee (f := 48) rfl ?_); refine goesL_ (some 17) rfl rfl Tryz.func48 zz1h rfl #[.int .i64 (rd l0 ca), .int .i64 0, .int .i64 (wrap64 (a1 - 1))] rfl zz0h ?_; (with_reducible refine (impl_in.calls (rd l0 ca) 0 (wrap64 (a1 - 1)) true _ A6.out).mono ?_); rintro e w' ⟨rfl, ⟨nd, rfl⟩⟩; refine ⟨_, rfl, ?_⟩; have cn : 0 ≤ ((ji9) : Int) := of_decide_eq_true zz1g; have co : (ji9) < (l0.length : Int) := of_decide_eq_true zz1g; obtain ⟨dC, eB, bg⟩ := Kd.at_int dm.out (ji9) cn co; obtain rfl : bf = dC := (by injection eB); replace cn := eq_true cn; replace co := eq_true co))
           go_roundg k1
           case measure => have := bw.out; omega
           case rel => exact ⟨(wrap64 (ca + 1)), zz12, H', ⟨zz1b bw⟩, zz10⟩
       · rw [if_neg c8] at H; have d3 : decide (0 < ca) = false := decide_eq_false c8; clear c8; have H' := zA H; clear H; have aH : 0 ≤ (ca : Int) := of_decide_eq_true zz1g; have aI : ca < (l0.length : Int) := of_decide_eq_true zz1g; obtain ⟨bf, bx, a9⟩ := Kd.at_int dm.out ca aH aI; cases bx; replace aH := eq_true aH; replace aI := eq_true aI; go_wp2_with (first | ((with_reducible refine gate_callee (f := 48) rfl ?_); refine goesL_ (some 17) rfl rfl Tryz.func48 zz1h rfl #[.int .i64 (rd l0 ca), .int .i64 0, .int .i64 (wrap64 (a1 - 1))] rfl zz0h ?_; (with_reducible refine (impl_in.calls (rd l0 ca) 0 (wrap64 (a1 - 1)) true _ A6.out).mono ?_); rintro e w' ⟨rfl, ⟨nd, rfl⟩⟩; refine ⟨_, rfl, ?_⟩))
         go_roundg k1
         case measure => have := bw.out; omega
         case rel => exact ⟨(wrap64 (ca + 1)), zz12, H', ⟨zz1b bw⟩, zz10⟩
     · replace c7 := Bool.eq_false_iff.mpr c7; subst c7; rw [if_neg zFt] at H; obtain rfl := Option.some.inj H; have aH : 0 ≤ (ca : Int) := of_decide_eq_true zz1g; have aI : ca < (l0.length : Int) := of_decide_eq_true zz1g; obtain ⟨bf, bx, a9⟩ := Kd.at_int dm.out ca aH aI; cases bx; replace aH := eq_true aH; replace aI := eq_true aI; go_wp2_with (first | ((with_reducible refine gate_callee (f := 48) rfl ?_); refine goesL_ (some 17) rfl rfl Tryz.func48 zz1h rfl #[.int .i64 (rd l0 ca), .int .i64 0, .int .i64 (wrap64 (a1 - 1))] rfl zz0h ?_; (with_reducible refine (impl_in.calls (rd l0 ca) 0 (wrap64 (a1 - 1)) false _ A6.out).mono ?_); rintro e w' ⟨rfl, ⟨nd, rfl⟩⟩; refine ⟨_, rfl, ?_⟩)); go_ret; exact ⟨zz12, zz10⟩
   · rw [if_neg c3] at H; have cL := decide_eq_false c3; clear c3; obtain rfl := Option.some.inj H; go_wp2; go_ret; exact ⟨zz12, zz10⟩
def spec_l1In.f (a0 : Int) (a1 : Int) (a2 : Int) : Option (Bool) := if a0 ≥ a1 then (some (decide (a0 ≤ a2))) else (some false)
set_option maxHeartbeats 8000000 in
set_option maxRecDepth 100000 in
theorem spec_l1In.calls (a0 : Int) (a1 : Int) (a2 : Int) (r : Bool) (w : World) (h : spec_l1In.f a0 a1 a2 = some r) :
 Calls Tryz.prog 41 #[.int .i64 a0, .int .i64 a1, .int .i64 a2] w fun e w' => e = .returned (.bool r) ∧ Drawn0 w w' := by
 have H : (if a0 ≥ a1 then (some (decide (a0 ≤ a2))) else (some false)) = some r := h; clear h; by_cases c4 : a0 ≥ a1
 · rw [if_pos c4] at H; have cZ : decide (a1 ≤ a0) = true := decide_eq_true c4; clear c4; obtain rfl := Option.some.inj H; go_enter Tryz.func41, Tryz.ntmps41; go_wp2; go_ret; exact ⟨zz12, zz10⟩
 · rw [if_neg c4] at H; have cZ : decide (a1 ≤ a0) = false := decide_eq_false c4; clear c4; obtain rfl := Option.some.inj H; go_enter Tryz.func41, Tryz.ntmps41; go_wp2; go_ret; exact ⟨zz12, zz10⟩
def spec_l1Rising.l0 : Nat → List Int → Int → Int → List Int → Int → Int → Option (Bool)
 | 0, _, _, _, _, _, _ => none
 | k + 1, x0, x1, x2, x9, l9, en => if en < l9 then (if 0 ≤ en then (if en < (x9.length : Int) then ((spec_l1In.f (rd x9 en) x1 x2).bind fun aE => (if aE = true then (if en > 0 then (if 0 ≤ (wrap64 (en - 1)) then (if (wrap64 (en - 1)) < (x0.length : Int) then (if (rd x0 (wrap64 (en - 1))) ≥ (rd x9 en) then (some false) else (spec_l1Rising.l0 k x0 x1 x2 x9 l9 (wrap64 (en + 1)))) else (none)) else (none)) else (spec_l1Rising.l0 k x0 x1 x2 x9 l9 (wrap64 (en + 1)))) else (some false))) else (none)) else (none)) else (some true)
def spec_l1Rising.f (k : Nat) (l0 : List Int) (a1 : Int) (a2 : Int) : Option (Bool) := spec_l1Rising.l0 k l0 a1 a2 l0 (l0.length : Int) 0
set_option maxHeartbeats 8000000 in
set_option maxRecDepth 100000 in
theorem spec_l1Rising.calls (k : Nat) (A0 : Option Addr) (c0 : Nat) (l0 : List Int) (a1 : Int) (a2 : Int) (r : Bool) (w : World) (dA : Kd.C (Kd.int .i64) w A0 l0.length l0) (dB : l0.length ≤ c0) (h : spec_l1Rising.f k l0 a1 a2 = some r) :
 Calls Tryz.prog 42 #[.slice A0 l0.length c0, .int .i64 a1, .int .i64 a2] w fun e w' => e = .returned (.bool r) ∧ Drawn0 w w' := by
 have dm := zA dA; have im := zA dB; clear dA dB; have H : (spec_l1Rising.l0 k l0 a1 a2 l0 (l0.length : Int) 0) = some r := h; clear h; have H' := zA H; clear H; go_enter Tryz.func42, Tryz.ntmps42; go_wp2; go_loopg [11] k (fun kq kg w' => ∃ (aC : Int), kg = .int .i64 aC ∧ Aside0 (spec_l1Rising.l0 kq l0 a1 a2 l0 (l0.length : Int) aC = some r) ∧ Aside0 (kq ≤ k) ∧ Drawn0 w w')
 case atStart => exact ⟨(0), zz12, H', ⟨Nat.le_refl _⟩, zz10⟩
 case round =>
  clear H'; (try clear p2); obtain ⟨aC, rfl, HA, bw, ⟨m1, rfl⟩⟩ := hrel; cases gk with
  | zero => exact absurd HA.out (by simp [spec_l1Rising.l0])
  | succ k1 =>
   have H := HA.out; clear HA; simp only [spec_l1Rising.l0] at H; by_cases c4 : aC < (l0.length : Int)
   · rw [if_pos c4] at H; have cZ := decide_eq_true c4; clear c4; replace H := zIn H; obtain ⟨c5, H⟩ := H; have eQ : decide (0 ≤ aC) = true := decide_eq_true c5; clear c5; replace H := zIn H; obtain ⟨c6, H⟩ := H; have dk : decide (aC < (l0.length : Int)) = true := decide_eq_true c6; clear c6; replace H := Option.bind_eq_some_iff.mp H; obtain ⟨aE, kN, H⟩ := H; have A7 := zA kN; clear kN; by_cases c8 : aE = true
     · subst c8; rw [if_pos rfl] at H; by_cases c9 : aC > 0
       · rw [if_pos c9] at H; have eW : decide (0 < aC) = true := decide_eq_true c9; clear c9; obtain ⟨ji10, hji10⟩ : ∃ j_ : Int, (wrap64 (aC - 1)) = j_ := ⟨_, rfl⟩
         replace H : (if 0 ≤ (ji10) then (if (ji10) < (l0.length : Int) then (if (rd l0 (ji10)) ≥ (rd l0 aC) then (some false) else (spec_l1Rising.l0 k1 l0 a1 a2 l0 (l0.length : Int) (wrap64 (aC + 1)))) else (none)) else (none)) = some r := by first | (rw [hji10] at H; exact H) | (simp only [hji10] at H ⊢; exact H)
         (try rw [hji10] at A7); have hji10w : (IntKind.i64.wrap (aC - 1)) = ji10 := (i64_w _).trans hji10; replace H := zIn H; obtain ⟨fy, H⟩ := H; have hA : decide (0 ≤ (ji10)) = true := decide_eq_true fy; clear fy; replace H := zIn H; obtain ⟨fN, H⟩ := H; have hC : decide ((ji10) < (l0.length : Int)) = true := decide_eq_true fN; clear fN; by_cases fz : (rd l0 (ji10)) ≥ (rd l0 aC)
         · rw [if_pos fz] at H; have iw : decide ((rd l0 aC) ≤ (rd l0 (ji10))) = true := decide_eq_true fz; clear fz; obtain rfl := Option.some.inj H; have aH : 0 ≤ (aC : Int) := of_decide_eq_true zz1g; have aI : aC < (l0.length : Int) := of_decide_eq_true zz1g; obtain ⟨bf, bx, a9⟩ := Kd.at_int dm.out aC aH aI; cases bx; replace aH := eq_true aH; replace aI := eq_true aI; go_wp2_with (first | ((with_reducible refine gate_callee (f := 41) rfl ?_); refine goesL_ (some 19) rfl rfl Tryz.func41 zz1h rfl #[.int .i64 (rd l0 aC), .int .i64 a1, .int .i64 a2] rfl zz0h ?_; (with_reducible refine (spec_l1In.calls (rd l0 aC) a1 a2 true _ A7.out).mono ?_); rintro e w' ⟨rfl, ⟨nd, rfl⟩⟩; refine ⟨_, rfl, ?_⟩; have cn : 0 ≤ ((ji10) : Int) := of_decide_eq_true zz1g; have co : (ji10) < (l0.length : Int) := of_decide_eq_true zz1g; obtain ⟨dC, eB, bg⟩ := Kd.at_int dm.out (ji10) cn co; obtain rfl : bf = dC := (by injection eB); replace cn := eq_true cn; replace co := eq_true co)); go_ret; exact ⟨by first | rfl | (simp; done) | (simp only [← hji10] <;> (first | rfl | simp)) | (simp [*]; done), zz10⟩
         · rw [if_neg fz] at H; have iw : decide ((rd l0 aC) ≤ (rd l0 (ji10))) = false := decide_eq_false fz; clear fz; have H' := zA H; clear H; have aH : 0 ≤ (aC : Int) := of_decide_eq_true zz1g; have aI : aC < (l0.length : Int) := of_decide_eq_true zz1g; obtain ⟨bf, bx, a9⟩ := Kd.at_int dm.out aC aH aI; cases bx; replace aH := eq_true aH; replace aI := eq_true aI; go_wp2_with (first | ((with_reducible refine gate_callee (f := 41) rfl ?_); refine goesL_ (some 19) rfl rfl Tryz.func41 zz1h rfl #[.int .i64 (rd l0 aC), .int .i64 a1, .int .i64 a2] rfl zz0h ?_; (with_reducible refine (spec_l1In.calls (rd l0 aC) a1 a2 true _ A7.out).mono ?_); rintro e w' ⟨rfl, ⟨nd, rfl⟩⟩; refine ⟨_, rfl, ?_⟩; have cn : 0 ≤ ((ji10) : Int) := of_decide_eq_true zz1g; have co : (ji10) < (l0.length : Int) := of_decide_eq_true zz1g; obtain ⟨dC, eB, bg⟩ := Kd.at_int dm.out (ji10) cn co; obtain rfl : bf = dC := (by injection eB); replace cn := eq_true cn; replace co := eq_true co))
           go_roundg k1
           case measure => have := bw.out; omega
           case rel => exact ⟨(wrap64 (aC + 1)), zz12, H', ⟨zz1b bw⟩, zz10⟩
       · rw [if_neg c9] at H; have eW : decide (0 < aC) = false := decide_eq_false c9; clear c9; have H' := zA H; clear H; have aH : 0 ≤ (aC : Int) := of_decide_eq_true zz1g; have aI : aC < (l0.length : Int) := of_decide_eq_true zz1g; obtain ⟨bf, bx, a9⟩ := Kd.at_int dm.out aC aH aI; cases bx; replace aH := eq_true aH; replace aI := eq_true aI; go_wp2_with (first | ((with_reducible refine gate_callee (f := 41) rfl ?_); refine goesL_ (some 19) rfl rfl Tryz.func41 zz1h rfl #[.int .i64 (rd l0 aC), .int .i64 a1, .int .i64 a2] rfl zz0h ?_; (with_reducible refine (spec_l1In.calls (rd l0 aC) a1 a2 true _ A7.out).mono ?_); rintro e w' ⟨rfl, ⟨nd, rfl⟩⟩; refine ⟨_, rfl, ?_⟩))
         go_roundg k1
         case measure => have := bw.out; omega
         case rel => exact ⟨(wrap64 (aC + 1)), zz12, H', ⟨zz1b bw⟩, zz10⟩
     · replace c8 := Bool.eq_false_iff.mpr c8; subst c8; rw [if_neg zFt] at H; obtain rfl := Option.some.inj H; have aH : 0 ≤ (aC : Int) := of_decide_eq_true zz1g; have aI : aC < (l0.length : Int) := of_decide_eq_true zz1g; obtain ⟨bf, bx, a9⟩ := Kd.at_int dm.out aC aH aI; cases bx; replace aH := eq_true aH; replace aI := eq_true aI; go_wp2_with (first | ((with_reducible refine gate_callee (f := 41) rfl ?_); refine goesL_ (some 19) rfl rfl Tryz.func41 zz1h rfl #[.int .i64 (rd l0 aC), .int .i64 a1, .int .i64 a2] rfl zz0h ?_; (with_reducible refine (spec_l1In.calls (rd l0 aC) a1 a2 false _ A7.out).mono ?_); rintro e w' ⟨rfl, ⟨nd, rfl⟩⟩; refine ⟨_, rfl, ?_⟩)); go_ret; exact ⟨zz12, zz10⟩
   · rw [if_neg c4] at H; have cZ := decide_eq_false c4; clear c4; obtain rfl := Option.some.inj H; go_wp2; go_ret; exact ⟨zz12, zz10⟩
end Go.Proofs.YtkocahlifffgjaaGreat.P
namespace Go.Proofs.YtkocahlifffgjaaGreat.P
open Go.RowKit Go.Proofs.YtkocahlifffgjaaGreatW.PrintWords
set_option linter.unusedVariables false
set_option linter.unusedSimpArgs false
def cmpL : List Int → List Int → Int
 | [], [] => 0
 | [], _ :: _ => -1
 | _ :: _, [] => 1
 | a :: l, b :: m => if a < b then -1 else if b < a then 1 else cmpL l m
theorem cmpInt_eq (a b : Int) : cmp_Compare_int.f a b = some (if a < b then -1 else if b < a then 1 else 0) := by
 unfold cmp_Compare_int.f cmp_isNaN_int.f; simp only [Option.bind_some, bne_self_eq_false, Bool.false_eq_true, if_false]; by_cases h1 : a < b
 · simp [h1]
 · by_cases h2 : b < a
   · simp [h1, h2]
   · simp [h1, h2]
theorem compare_loop (a b : List Int) (hb : a.length ≤ 9223372036854775807) (d : Nat) : ∀ (k i : Nat), i ≤ a.length → i ≤ b.length → a.length - i = d → d < k →
 slices_Compare_int_int.l0 k a b a a.length i = some (cmpL (a.drop i) (b.drop i)) := by
 induction d with
 | zero =>
  intro k i h1 h2 hd hk; obtain ⟨k, rfl⟩ : ∃ m, k = m + 1 := ⟨k - 1, zz1l⟩
  simp only [slices_Compare_int_int.l0]; rw [if_neg zz1l, List.drop_of_length_le (show a.length ≤ i by omega)]; by_cases hl : a.length < b.length
  · rw [if_pos zz1l, getD_drop b i 0 zz1l]; rfl
  · rw [if_neg zz1l, List.drop_of_length_le (show b.length ≤ i by omega)]; rfl
 | succ d ih =>
  intro k i h1 h2 hd hk; obtain ⟨k, rfl⟩ : ∃ m, k = m + 1 := ⟨k - 1, zz1l⟩
  simp only [slices_Compare_int_int.l0]; rw [if_pos zz1l, if_pos zz1l, if_pos zz1l]; have ea : a.drop i = rd a i :: a.drop (i + 1) := getD_drop a i 0 zz1l; by_cases hl : i < b.length
  · have eb : b.drop i = rd b i :: b.drop (i + 1) := getD_drop b i 0 zz1l; rw [if_neg zz1l, if_pos zz1l, cmpInt_eq, ea, eb]; simp only [Option.bind_some, cmpL]; by_cases h3 : rd a i < rd b i
    · rw [if_pos h3, if_pos h3, if_neg zz1k]
    · by_cases h4 : rd b i < rd a i
      · rw [if_neg h3, if_pos h4, if_neg h3, if_pos h4, if_neg zz1k]
      · rw [if_neg h3, if_neg h4, if_neg h3, if_neg h4, if_pos rfl, show wrap64 ((i : Int) + 1) = ((i + 1 : Nat) : Int) by unfold wrap64; omega]; exact ih k (i + 1) zz1l zz1l zz1l zz1l
  · rw [if_pos zz1l, ea, List.drop_of_length_le (show b.length ≤ i by omega)]; rfl
theorem compare_eq (a b : List Int) (hb : a.length ≤ 9223372036854775807) (k : Nat) (hk : a.length < k) : slices_Compare_int_int.f k a b = some (cmpL a b) := by
 unfold slices_Compare_int_int.f; have := compare_loop a b hb a.length k 0 zz1l zz1l zz1l hk; simpa using this
def riseF (lo hi : Int) : Option Int → List Int → Bool
 | _, [] => true
 | p, x :: l => decide (lo ≤ x ∧ x ≤ hi) && ((match p with | none => true | some y => decide (y < x)) && riseF lo hi (some x) l)
def prevI (l : List Int) : Nat → Option Int
 | 0 => none
 | i + 1 => some (rd l i)
theorem areRising_loop (l : List Int) (n : Int) (hb : l.length ≤ 9223372036854775807) (d : Nat) : ∀ (k i : Nat), i ≤ l.length → l.length - i = d → d < k →
 impl_areRising.l0 k l n l l.length i = some (riseF 0 (wrap64 (n - 1)) (prevI l i) (l.drop i)) := by
 induction d with
 | zero =>
  intro k i h1 hd hk; obtain ⟨k, rfl⟩ : ∃ m, k = m + 1 := ⟨k - 1, zz1l⟩
  simp only [impl_areRising.l0]; rw [if_neg zz1l, List.drop_of_length_le (show l.length ≤ i by omega)]; cases i <;> rfl
 | succ d ih =>
  intro k i h1 hd hk; obtain ⟨k, rfl⟩ : ∃ m, k = m + 1 := ⟨k - 1, zz1l⟩
  have hi := ih k (i + 1) zz1l zz1l zz1l; simp only [impl_areRising.l0]; rw [if_pos zz1l, if_pos zz1l, if_pos zz1l, impl_in_eq, getD_drop l i 0 zz1l]; simp only [Option.bind_some]; have e0 : l.getD i 0 = rd l i := rfl; rw [e0]; have ew : wrap64 ((i : Int) + 1) = ((i + 1 : Nat) : Int) := by unfold wrap64; omega
  have er : ∀ p m, riseF 0 (wrap64 (n - 1)) p (rd l i :: m) = (decide (0 ≤ rd l i ∧ rd l i ≤ wrap64 (n - 1)) && ((match p with | none => true | some y => decide (y < rd l i)) && riseF 0 (wrap64 (n - 1)) (some (rd l i)) m)) := fun _ _ => rfl
  rw [er]; by_cases h : 0 ≤ rd l i ∧ rd l i ≤ wrap64 (n - 1)
  · rw [if_pos (decide_eq_true h), decide_eq_true h, Bool.true_and]; cases i with
    | zero => rw [if_neg zz1m, ew, hi]; rfl
    | succ i =>
     have e1 : wrap64 (((i + 1 : Nat) : Int) - 1) = (i : Int) := by unfold wrap64; omega
     rw [if_pos zz1l, e1, if_pos zz1l, if_pos zz1l]; show _ = some (decide (rd l i < rd l ((i + 1 : Nat) : Int)) && _); by_cases h2 : rd l i < rd l ((i + 1 : Nat) : Int)
     · rw [if_neg zz1l, ew, hi, decide_eq_true h2]; rfl
     · rw [if_pos zz1l, decide_eq_false h2]; rfl
  · rw [if_neg (by rw [decide_eq_false h]; exact Bool.false_ne_true), decide_eq_false h, Bool.false_and]
theorem areRising_eq (l : List Int) (n : Int) (hb : l.length ≤ 9223372036854775807) (k : Nat) (hk : l.length < k) : impl_areRising.f k l n = some (riseF 0 (wrap64 (n - 1)) none l) := by
 unfold impl_areRising.f; have := areRising_loop l n hb l.length k 0 zz1l zz1l hk; simpa [prevI] using this
def rowOk (nons toks many : Int) (x : List Int) : Bool := decide ((x.length : Int) = many) && (decide (0 ≤ rd x 0 ∧ rd x 0 ≤ wrap64 (nons - 1)) && !((x.drop 1).any fun y => !symB nons toks y))
def listsF (nons toks many : Int) : Option (List Int) → List (List Int) → Bool
 | _, [] => true
 | p, x :: l => rowOk nons toks many x && ((match p with | none => true | some y => decide (cmpL y x < 0)) && listsF nons toks many (some x) l)
def prevL (l : List (List Int)) : Nat → Option (List Int)
 | 0 => none
 | i + 1 => some (l.getD i [])
def goodB (nons toks : Int) (ps os : List (List Int)) (es : List Int) (fs : List (List Int)) : Bool :=
 decide (1 ≤ nons ∧ nons ≤ 40) && (decide (1 ≤ toks ∧ toks ≤ 4) && (riseF 0 (wrap64 (nons - 1)) none es && (decide ((fs.length : Int) ≤ nons) && (!(fs.any fun f => (f.length : Int) != 2) && (listsF nons toks 3 none ps && listsF nons toks 2 none os)))))
end Go.Proofs.YtkocahlifffgjaaGreat.P
