/- A part of the proofs of some laws of this seat (words of the print and texts of this session, without what these laws do not use). -/
import Derived.Test.YtkocahlifffgjaaTFnExactAcceptsp0
import Derived.Test.YtkocahlifffgjaaProg
import Derived.Below
import Derived.Deep.Draws
import Derived.Deep.AppendLies
import Derived.Maps.AppendAt
import Derived.OwnWalk
import Derived.Laws.BytesArg
import Derived.Laws.MakeOwn
import Derived.Laws.OwnMore
import Derived.Deep.OwnRows
import Derived.Tactics
import Derived.Lib.ConvBytes
import Derived.Laws.Slices
import Derived.WalkKit
import Derived.KernelRfl
import Derived.RowKit3
import Derived.Deep.LoopGhost
import Derived.Deep.QuietTactic
import Derived.BigQuiet
import Derived.WideLaws
import Derived.Deep.DeepCutAuto
import Derived.Deep.CutBlock
import Derived.Deep.RegionHeld3
import Derived.Laws.Rows
import Derived.Lib.AppendStr
import Derived.ArgAppend
import Derived.Laws.IdiomCopy
import Derived.OrdersHeld
import Derived.Laws.BitsLemmas
import Derived.RowKit
import Derived.Shelf.Abstract
import Derived.Maps.RangeWalk
namespace Go.Proofs.YtkocahlifffgjaaW.PrintWords
open Go.RowKit
namespace Kd
section
variable {α : Type} {d : Kd α} {e base n cap g : Nat} {ok ok' okp : Nat → Prop} {w w1 W : World} {v v1 : Value} {xs ys : List α}
theorem N_appended {rows news : List (List Value)} (h0 : ∀ k, v.ownBlock = some k → ok k) (hl : rows.length = xs.length) (hf : ∀ (j : Nat) (x : α) (c : List Value), xs[j]? = some x → rows[j]? = some c → FK d W (fun k => ok k ∧ some k ≠ v.ownBlock) x c)
 (hl2 : news.length = ys.length) (hf2 : ∀ (j : Nat) (x : α) (c : List Value), ys[j]? = some x → news[j]? = some c → FK d W okp x c) (hokp : ∀ k, okp k → ok k ∧ some k ≠ v.ownBlock) (hfresh : ∀ k, W.heap.size ≤ k → ok k)
 (hR : (raw d.sz).R e w1 base (fun _ => True) v1 (rows ++ news)) (hg : W.grownBy w1 v.ownBlock) (hat : v1.ownBlock = v.ownBlock ∨ ∃ b, v1.ownBlock = some b ∧ W.heap.size ≤ b) : N d e w1 base ok v1 (xs ++ ys) := by
 have hne : ∀ k, some k ≠ v.ownBlock → k < W.heap.size → some k ≠ v1.ownBlock := by
  intro k hk hlt; rcases hat with hat | ⟨b, hb, hle⟩
  · rw [hat]; exact hk
  · rw [hb]; intro he; injection he with he; omega
 have step : ∀ {x : α} {c : List Value} {o : Nat → Prop}, FK d W o x c → (∀ k, o k → ok k ∧ some k ≠ v.ownBlock) → FK d w1 (fun k => ok k ∧ some k ≠ v1.ownBlock) x c := by
  intro x c o hq ho; exact FK_mono (FK_step (FK_bound hq) (fun k hk hlt => hg.block k hlt (ho k hk.1).2)) (fun k hk => ⟨(ho k hk.1).1, hne k (ho k hk.1).2 hk.2⟩)
 refine ⟨fun k hk => ?_, rows ++ news, by rw [List.length_append, List.length_append, hl, hl2], raw_tight hR, fun j x c hx hc => ?_⟩
 · rcases hat with hat | ⟨b, hb, hle⟩
   · exact h0 k (hat ▸ hk)
   · rw [hb] at hk; injection hk with hk; exact hfresh k (by omega)
 · rcases Nat.lt_or_ge j xs.length with hlt | hge
   · rw [List.getElem?_append_left hlt] at hx; rw [List.getElem?_append_left (by omega)] at hc; exact step (hf j x c hx hc) (fun _ hk => hk)
   · rw [List.getElem?_append_right hge] at hx; rw [List.getElem?_append_right (by omega), hl] at hc; exact step (hf2 _ x c hx hc) hokp
theorem FK_raw {x : α} {c : List Value} (h : FK d W ok x c) : c = c ∧ c.length = d.sz ∧ ∀ u ∈ c, u.oneCell' = true := ⟨rfl, d.K_len (FK_now h), d.K_one (FK_now h)⟩
theorem N_made {rows : List (List Value)} (hR : (raw d.sz).R e w1 base (fun k => k = W.heap.size) v1 rows) (hg : W.grownBy w1 none) (hat : ∃ b, v1.ownBlock = some b ∧ W.heap.size ≤ b) (hl : rows.length = xs.length) (hf : ∀ (j : Nat) (x : α) (c : List Value), xs[j]? = some x → rows[j]? = some c → FK d W okp x c)
 (hok : ∀ k, okp k → ok k) (hfresh : ok W.heap.size) : N d e w1 base ok v1 xs := by
 obtain ⟨b, hb, hle⟩ := hat; refine ⟨fun k hk => by rw [hR.1 k hk]; exact hfresh, rows, hl, raw_tight hR, fun j x c hx hc => ?_⟩; refine FK_mono (FK_step (FK_bound (hf j x c hx hc)) (fun k hk hlt => hg.block k hlt (by simp))) (fun k hk => ⟨hok k hk.1, fun he => ?_⟩); rw [hb] at he; injection he with he; have := hk.2; omega
theorem N_written {rows : List (List Value)} {i : Int} {x' : α} {c' : List Value} (h0 : ∀ k, (Value.slice (some ⟨g, 0, none⟩) n cap).ownBlock = some k → ok k) (hl : rows.length = xs.length) (hf : ∀ (j : Nat) (x : α) (c : List Value), xs[j]? = some x → rows[j]? = some c → FK d W (fun k => ok k ∧ some k ≠ (Value.slice (some ⟨g, 0, none⟩) n cap).ownBlock) x c)
 (hR : (raw d.sz).R e w1 base (fun _ => True) (.slice (some ⟨g, 0, none⟩) n cap) (rows.set i.toNat c')) (hg : W.grownBy w1 (some g)) (hM : FK d W okp x' c') (hokp : ∀ k, okp k → ok k ∧ k ≠ g) : N d e w1 base ok (.slice (some ⟨g, 0, none⟩) n cap) (xs.set i.toNat x') := by
 have hgo : some g = (Value.slice (some ⟨g, 0, none⟩) n cap).ownBlock := by simp [Value.ownBlock]
 refine ⟨h0, rows.set i.toNat c', by rw [List.length_set, List.length_set, hl], raw_tight hR, fun j x c hx hc => ?_⟩; have hjl : j < xs.length := by have := (List.getElem?_eq_some_iff.1 hx).1; rwa [List.length_set] at this
 by_cases hji : j = i.toNat
 · subst hji; rw [List.getElem?_set_self hjl] at hx; rw [List.getElem?_set_self (by omega)] at hc; injection hx with hx; injection hc with hc; rw [← hx, ← hc]; exact FK_mono (FK_step hM (fun k hk hlt => hg.block k hlt (fun he => (hokp k hk).2 (by injection he)))) (fun k hk => ⟨(hokp k hk).1, fun he => (hokp k hk).2 (by rw [← hgo] at he; injection he)⟩)
 · rw [List.getElem?_set_ne (Ne.symm hji)] at hx hc; exact FK_step (hf j x c hx hc) (fun k hk hlt => hg.block k hlt (by rw [hgo]; exact hk.2))
theorem N_seg (h : N d e W base ok (.slice (some ⟨g, 0, none⟩) n cap) xs) (i : Int) (h0 : 0 ≤ i) (h1 : i < n) {c seg : List Value} {j : Nat} (hcl : c.length = d.sz) (hcc : ∀ j u, c[j]? = some u → W.cell? ⟨g, i.toNat * d.sz + j, none⟩ = some u)
 (hj : j + seg.length ≤ d.sz) {x' : α} (hM : FK d W okp x' (c.take j ++ seg ++ c.drop (j + seg.length))) (hokp : ∀ k, okp k → ok k ∧ k ≠ g) :
 N d e (W.setCells g (i.toNat * d.sz + j) seg) base ok (.slice (some ⟨g, 0, none⟩) n cap) (xs.set i.toNat x') ∧ W.grownBy (W.setCells g (i.toNat * d.sz + j) seg) (some g) := by
 obtain ⟨hown, rows, hl, hR, hf⟩ := h; obtain ⟨h2, h3⟩ := R_seg (raw_any hR) i h0 h1 (c := c) (seg := seg) (j := j) (x' := c.take j ++ seg ++ c.drop (j + seg.length)) (okp := fun _ => False) hcl hcc hj ⟨rfl, d.K_len (FK_now hM), d.K_one (FK_now hM)⟩ (fun _ hk => hk.elim); exact ⟨N_written hown hl hf h2 h3 hM hokp, h3⟩
theorem reads_raw {Rr : α → List Value → Prop} {sz m : Nat} {A : Option Addr} (h : ReadsRow Rr sz W A m ys) (hR : ∀ x c, Rr x c → c.length = sz ∧ ∀ u ∈ c, u.oneCell' = true) :
 ∃ news : List (List Value), news.length = ys.length ∧ ReadsRow (fun x cs => cs = x ∧ cs.length = sz ∧ ∀ u ∈ cs, u.oneCell' = true) sz W A m news ∧ ∀ (j : Nat) (x : α) (c : List Value), ys[j]? = some x → news[j]? = some c → Rr x c := by
 rcases Nat.eq_zero_or_pos m with h0 | hp
 · have hy : ys = [] := List.eq_nil_of_length_eq_zero (h.1.trans h0); subst hy; exact ⟨[], rfl, ⟨h0 ▸ rfl, h.2.1, fun hp => by omega⟩, fun j x c hx => by simp at hx⟩
 · obtain ⟨ad, rfl, _⟩ := h.2.2 hp; obtain ⟨inner, hr, hc⟩ := ReadsRow.inner_ h; refine ⟨chunks sz ys.length inner, chunks_length _ _ _, ⟨by rw [chunks_length]; exact h.1, h.2.1, fun _ => ⟨ad, rfl, fun j p hj => ?_⟩⟩, fun j x c hx hcc => ?_⟩
   · have hjl : j < ys.length := by have := (List.getElem?_eq_some_iff.1 hj).1; rwa [chunks_length] at this
     have hpe := chunks_get hj; have hq := hR _ _ (hr.2 j _ (List.getElem?_eq_getElem hjl)); rw [← hpe] at hq; refine ⟨p, hq.1, ⟨rfl, hq⟩, fun i u hu => ?_⟩; have hu2 : inner[j * sz + i]? = some u := by
      rw [hpe, List.getElem?_take] at hu
      split at hu
      · rw [List.getElem?_drop] at hu; exact hu
      · cases hu
     exact hc _ u hu2
   · rw [chunks_get hcc]; exact hr.2 j x hx
end
section
variable {P : Program} {ops : Array Oper} {rest : List Oper} {o : Oper} {a : Act} {Q : Exit → Act → World → Prop} {Kc : Act → World → Prop} {α : Type}
theorem N_append (d : Kd α) {w0 W : World} (base : Nat) (hgd : o.guard = none) (s x : Operand) (t e : TypeId) (z : Value) (bytes : Nat)
 (ho : o.op = .call { callee := .builtin .append, args := #[s, x], argTypes := #[t, t] })
 (ht : P.underlying t = some (.slice e)) (hinfo : (P.info? e).map (fun i => (i.zero, i.size, i.bytes)) = some (some z, d.sz, bytes)) (hz : z.cells.size = d.sz) (hs0 : 0 < d.sz) (hb0 : 0 < bytes)
 (v : Value) (xs : List α) (p : α) (cs : List Value) (ok okp : Nat → Prop) (hs : a.eval s = v) (hx : a.eval x = .slice (some ⟨W.heap.size, 0, none⟩) 1 1) (hp : FK d W okp p cs) (hokp : ∀ k, okp k → ok k ∧ some k ≠ v.ownBlock) (hfresh : ∀ k, W.heap.size ≤ k → ok k)
 (HO : N d e W base ok v xs) (HB : Below base w0 W) (hbase : base ≤ W.heap.size) (hl : (xs.length + 1) * bytes ≤ 140737488355328)
 (h : ∀ v1 w1, N d e w1 base ok v1 (xs ++ [p]) → Below base w0 w1 → W.grownBy w1 v.ownBlock → (v1.ownBlock = v.ownBlock ∨ ∃ b, v1.ownBlock = some b ∧ W.heap.size ≤ b) → wpList P ops Q rest (a.put o.dst v1) w1) :
 wpList P ops Q (o :: rest) a (W.alloc (.cells cs.toArray e)) := by
 obtain ⟨h0, rows, hlr, hR, hf⟩ := HO; refine R_append (raw d.sz) base hgd s x t e z bytes ho ht hinfo hz hs0 hb0 v rows cs cs (fun _ => True) (fun _ => False) hs hx (FK_raw hp) (fun _ hk => hk.elim) (fun _ _ => trivial) (raw_any hR) HB hbase (by rw [hlr]; exact hl) ?_; intro v1 w1 hr hb hg hat; exact h v1 w1 (N_appended h0 hlr hf (ys := [p]) (news := [cs]) rfl (fun j y c hy hc => by
  rcases j with _ | j
  · simp only [List.getElem?_cons_zero, Option.some.injEq] at hy hc; rw [← hy, ← hc]; exact hp
  · simp at hy) hokp hfresh hr hg hat) hb hg hat
theorem N_append_rows (d : Kd α) {w0 W : World} (base : Nat) (hgd : o.guard = none) (s x : Operand) (t e : TypeId) (z : Value) (bytes : Nat)
 (ho : o.op = .call { callee := .builtin .append, args := #[s, x], argTypes := #[t, t] })
 (ht : P.underlying t = some (.slice e)) (hinfo : (P.info? e).map (fun i => (i.zero, i.size, i.bytes)) = some (some z, d.sz, bytes)) (hz : z.cells.size = d.sz) (hs0 : 0 < d.sz) (hb0 : 0 < bytes)
 (v : Value) (xs ys : List α) (A : Option Addr) (m c : Nat) (ok okp : Nat → Prop) (hs : a.eval s = v) (hx : a.eval x = .slice A m c)
 (HO : N d e W base ok v xs) (HR : F d W okp A m ys) (hokp : ∀ k, okp k → ok k ∧ some k ≠ v.ownBlock) (hfresh : ∀ k, W.heap.size ≤ k → ok k)
 (HB : Below base w0 W) (hbase : base ≤ W.heap.size) (hl : (xs.length + m) * bytes ≤ 140737488355328)
 (h : ∀ v1 w1, N d e w1 base ok v1 (xs ++ ys) → Below base w0 w1 → W.grownBy w1 v.ownBlock → (v1.ownBlock = v.ownBlock ∨ ∃ b, v1.ownBlock = some b ∧ W.heap.size ≤ b) → wpList P ops Q rest (a.put o.dst v1) w1) :
 wpList P ops Q (o :: rest) a W := by
 obtain ⟨h0, rows, hlr, hR, hf⟩ := HO; obtain ⟨news, hnl, hnr, hnf⟩ := reads_raw (F_rows HR) (fun y c hk => ⟨d.K_len (FK_now hk), d.K_one (FK_now hk)⟩); refine R_append_rows (raw d.sz) base hgd s x t e z bytes ho ht hinfo hz hs0 hb0 v rows news A m c (fun _ => True) (fun _ => False) hs hx (raw_any hR) hnr (fun _ _ hk => hk) (fun _ hk => hk.elim) (fun _ _ => trivial) HB hbase (by rw [hlr]; exact hl) ?_; intro v1 w1 hr hb hg hat; exact h v1 w1 (N_appended h0 hlr hf hnl hnf hokp hfresh hr hg hat) hb hg hat
theorem N_append_rows_step (d : Kd α) {w0 W : World} (base : Nat) (hw : Region.wanted o (yielded ops a.tmps) = true) (s x : Operand) (t e : TypeId) (z : Value) (bytes : Nat)
 (ho : o.op = .call { callee := .builtin .append, args := #[s, x], argTypes := #[t, t] })
 (ht : P.underlying t = some (.slice e)) (hinfo : (P.info? e).map (fun i => (i.zero, i.size, i.bytes)) = some (some z, d.sz, bytes)) (hz : z.cells.size = d.sz) (hs0 : 0 < d.sz) (hb0 : 0 < bytes)
 (v : Value) (xs ys : List α) (A : Option Addr) (m c : Nat) (ok okp : Nat → Prop) (hs : a.eval s = v) (hx : a.eval x = .slice A m c)
 (HO : N d e W base ok v xs) (HR : F d W okp A m ys) (hokp : ∀ k, okp k → ok k ∧ some k ≠ v.ownBlock) (hfresh : ∀ k, W.heap.size ≤ k → ok k)
 (HB : Below base w0 W) (hbase : base ≤ W.heap.size) (hl : (xs.length + m) * bytes ≤ 140737488355328)
 (h : ∀ v1 w1, N d e w1 base ok v1 (xs ++ ys) → Below base w0 w1 → W.grownBy w1 v.ownBlock → (v1.ownBlock = v.ownBlock ∨ ∃ b, v1.ownBlock = some b ∧ W.heap.size ≤ b) → Kc (a.put o.dst v1) w1) :
 if Region.wanted o (yielded ops a.tmps) = true then Oper.wp P o a W Kc Q else Kc (a.put o.dst undef) W := by
 obtain ⟨h0, rows, hlr, hR, hf⟩ := HO; obtain ⟨news, hnl, hnr, hnf⟩ := reads_raw (F_rows HR) (fun y c hk => ⟨d.K_len (FK_now hk), d.K_one (FK_now hk)⟩); refine R_append_rows_step (raw d.sz) base hw s x t e z bytes ho ht hinfo hz hs0 hb0 v rows news A m c (fun _ => True) (fun _ => False) hs hx (raw_any hR) hnr (fun _ _ hk => hk) (fun _ hk => hk.elim) (fun _ _ => trivial) HB hbase (by rw [hlr]; exact hl) ?_; intro v1 w1 hr hb hg hat; exact h v1 w1 (N_appended h0 hlr hf hnl hnf hokp hfresh hr hg hat) hb hg hat
theorem N_lit (d : Kd α) {w0 W : World} (base e : Nat) (hgd : o.guard = none) {N' : Tmp} (_hd : o.dst = some N') {xs : List α} {inner : List Value} {ok okp : Nat → Prop}
 (hrun : (execOp a.eval o).run P W = .ok (.value (.slice (some ⟨W.heap.size, 0, none⟩) xs.length xs.length)) (W.alloc (.cells inner.toArray e)))
 (hrep : Reps (FK d W okp) d.sz xs inner) (hok : ∀ k, okp k → ok k) (hfresh : ok W.heap.size) (HB : Below base w0 W) (hbase : base ≤ W.heap.size) (hm : xs.length ≤ 9223372036854775807)
 (h : ∀ v1 w1, N d e w1 base ok v1 xs → Below base w0 w1 → W.grownBy w1 none → (∃ b, v1.ownBlock = some b ∧ W.heap.size ≤ b) → wpList P ops Q rest (a.put o.dst v1) w1) :
 wpList P ops Q (o :: rest) a W := by
 refine R_lit (raw d.sz) base e hgd _hd (xs := chunks d.sz xs.length inner) (inner := inner) (ok := fun k => k = W.heap.size) (okp := fun _ => False) (by rw [chunks_length]; exact hrun) (reps_raw hrep (fun y c hk => ⟨d.K_len (FK_now hk), d.K_one (FK_now hk)⟩)) (fun _ hk => hk.elim) rfl HB hbase (by rw [chunks_length]; exact hm) ?_; intro v1 w1 hr hb hg hat; exact h v1 w1 (N_made hr hg hat (chunks_length _ _ _) (fun j y c hy hc => by rw [chunks_get hc]; exact hrep.2 j y hy) hok hfresh) hb hg hat
theorem N_lit_step (d : Kd α) {w0 W : World} (base e : Nat) (hw : Region.wanted o (yielded ops a.tmps) = true) {N' : Tmp} (_hd : o.dst = some N') {xs : List α} {inner : List Value} {ok okp : Nat → Prop}
 (hrun : (execOp a.eval o).run P W = .ok (.value (.slice (some ⟨W.heap.size, 0, none⟩) xs.length xs.length)) (W.alloc (.cells inner.toArray e)))
 (hrep : Reps (FK d W okp) d.sz xs inner) (hok : ∀ k, okp k → ok k) (hfresh : ok W.heap.size) (HB : Below base w0 W) (hbase : base ≤ W.heap.size) (hm : xs.length ≤ 9223372036854775807)
 (h : ∀ v1 w1, N d e w1 base ok v1 xs → Below base w0 w1 → W.grownBy w1 none → (∃ b, v1.ownBlock = some b ∧ W.heap.size ≤ b) → Kc (a.put o.dst v1) w1) :
 if Region.wanted o (yielded ops a.tmps) = true then Oper.wp P o a W Kc Q else Kc (a.put o.dst undef) W := by
 refine R_lit_step (raw d.sz) base e hw _hd (xs := chunks d.sz xs.length inner) (inner := inner) (ok := fun k => k = W.heap.size) (okp := fun _ => False) (by rw [chunks_length]; exact hrun) (reps_raw hrep (fun y c hk => ⟨d.K_len (FK_now hk), d.K_one (FK_now hk)⟩)) (fun _ hk => hk.elim) rfl HB hbase (by rw [chunks_length]; exact hm) ?_; intro v1 w1 hr hb hg hat; exact h v1 w1 (N_made hr hg hat (chunks_length _ _ _) (fun j y c hy hc => by rw [chunks_get hc]; exact hrep.2 j y hy) hok hfresh) hb hg hat
theorem N_make (d : Kd α) {w0 W : World} (base e : Nat) (hgd : o.guard = none) {N' : Tmp} (hd : o.dst = some N') (t : TypeId) (x y : Operand) (ho : o.op = .makeSlice t x y) (n : Int) (hx : a.eval x = .int .i64 n) (hy : a.eval y = .int .i64 n)
 (ht : P.underlying t = some (.slice e)) (z : Value) (bytes : Nat) (hinfo : (P.info? e).map (fun i => (i.zero, i.size, i.bytes)) = some (some z, d.sz, bytes)) (hz : z.cells.size = d.sz) (hs0 : 0 < d.sz) (hb0 : 0 < bytes)
 (z0 : α) {ok okp : Nat → Prop} (hzero : FK d W okp z0 z.cells.toList) (hok : ∀ k, okp k → ok k) (hfresh : ok W.heap.size) (h0 : 0 ≤ n) (hl : n.toNat * bytes ≤ 281474976710656) (HB : Below base w0 W) (hbase : base ≤ W.heap.size)
 (h : ∀ v1 w1, N d e w1 base ok v1 (List.replicate n.toNat z0) → Below base w0 w1 → W.grownBy w1 none → (∃ b, v1.ownBlock = some b ∧ W.heap.size ≤ b) → wpList P ops Q rest (a.put o.dst v1) w1) :
 wpList P ops Q (o :: rest) a W := by
 refine R_make (raw d.sz) base e hgd hd t x y ho n hx hy ht z bytes hinfo hz hs0 hb0 z.cells.toList (ok := fun k => k = W.heap.size) (okp := fun _ => False) (FK_raw hzero) (fun _ hk => hk.elim) rfl h0 hl HB hbase ?_; intro v1 w1 hr hb hg hat; refine h v1 w1 (N_made hr hg hat (by rw [List.length_replicate, List.length_replicate]) (fun j y c hy hc => ?_) hok hfresh) hb hg hat; have h1 := (List.getElem?_eq_some_iff.1 hy).2; have h2 := (List.getElem?_eq_some_iff.1 hc).2; rw [List.getElem_replicate] at h1 h2; rw [← h1, ← h2]; exact hzero
end
end Kd
end Go.Proofs.YtkocahlifffgjaaW.PrintWords
namespace Go.Proofs.YtkocahlifffgjaaW.PrintMore
open Go.RowKit Go.Proofs.YtkocahlifffgjaaW.PrintWords
namespace Kd
open Go.Proofs.YtkocahlifffgjaaW.PrintWords.Kd
end Kd
namespace Kd
open Go.Proofs.YtkocahlifffgjaaW.PrintWords.Kd
section
variable {α : Type} {d : Kd α} {e base g N : Nat} {ok : Nat → Prop} {W w1 : World} {u v : Value} {xs : List α}
end
end Kd
theorem max2_int (k k' : IntKind) (x y : Int) : Builtin.max2 (.int k x) (.int k' y) = pure (.int k (if x < y then y else x)) := by simp only [Builtin.max2, gt_iff_lt]
theorem min2_int (k k' : IntKind) (x y : Int) : Builtin.min2 (.int k x) (.int k' y) = pure (.int k (if y < x then y else x)) := by simp only [Builtin.min2]
theorem max_two (ats : Array TypeId) (ty : TypeId) (a b : Value) : Builtin.max_ ats ty #[a, b] = (Builtin.max2 a b >>= fun s => pure s) := by simp only [Builtin.max_, List.foldlM_cons, List.foldlM_nil]
theorem min_two (ats : Array TypeId) (ty : TypeId) (a b : Value) : Builtin.min_ ats ty #[a, b] = (Builtin.min2 a b >>= fun s => pure s) := by simp only [Builtin.min_, List.foldlM_cons, List.foldlM_nil]
theorem max_three (ats : Array TypeId) (ty : TypeId) (a b c : Value) : Builtin.max_ ats ty #[a, b, c] = (Builtin.max2 a b >>= fun s => Builtin.max2 s c >>= fun s => pure s) := by simp only [Builtin.max_, List.foldlM_cons, List.foldlM_nil]
theorem min_three (ats : Array TypeId) (ty : TypeId) (a b c : Value) : Builtin.min_ ats ty #[a, b, c] = (Builtin.min2 a b >>= fun s => Builtin.min2 s c >>= fun s => pure s) := by simp only [Builtin.min_, List.foldlM_cons, List.foldlM_nil]
theorem max_four (ats : Array TypeId) (ty : TypeId) (a b c d : Value) : Builtin.max_ ats ty #[a, b, c, d] = (Builtin.max2 a b >>= fun s => Builtin.max2 s c >>= fun s => Builtin.max2 s d >>= fun s => pure s) := by simp only [Builtin.max_, List.foldlM_cons, List.foldlM_nil]
theorem min_four (ats : Array TypeId) (ty : TypeId) (a b c d : Value) : Builtin.min_ ats ty #[a, b, c, d] = (Builtin.min2 a b >>= fun s => Builtin.min2 s c >>= fun s => Builtin.min2 s d >>= fun s => pure s) := by simp only [Builtin.min_, List.foldlM_cons, List.foldlM_nil]
end Go.Proofs.YtkocahlifffgjaaW.PrintMore
namespace Go.Proofs.YtkocahlifffgjaaW.PrintWords
open Go.RowKit
section
variable {P : Program} {ops : Array Oper} {rest : List Oper} {o : Oper} {a : Act} {Q : Exit → Act → World → Prop} {W : World}
theorem gate_callee {f : FuncId} {as_ : Array Operand} {ts : Array TypeId} (_ho : o.op = .call { callee := .value (.func f), args := as_, argTypes := ts }) (h : wpList P ops Q (o :: rest) a W) : wpList P ops Q (o :: rest) a W := h
theorem gate_builtin {b : Builtin} {xs : Array Operand} {ts : Array TypeId} (_ho : o.op = .call { callee := .builtin b, args := xs, argTypes := ts }) (h : wpList P ops Q (o :: rest) a W) : wpList P ops Q (o :: rest) a W := h
end
def mx (a b : Int) : Int := if a < b then b else a
def mn (a b : Int) : Int := if b < a then b else a
def shl (k : IntKind) (x y : Int) : Int := k.wrap (x * 2 ^ min y.toNat k.bits)
def shr (k : IntKind) (x y : Int) : Int := x / 2 ^ min y.toNat k.bits
theorem drewN_self (w : World) (n : Nat) : w.drewN n = w.drewN n := rfl
namespace Kd
section
variable {α : Type} {d : Kd α} {e base : Nat} {ok : Nat → Prop} {W w1 : World} {v : Value} {xs : List α}
end
section
variable {α : Type} {d : Kd α} {e base g n cap : Nat} {ok oki okp : Nat → Prop} {W : World} {xs : List α} {i : Int} {c : List Value}
end
section
variable {α : Type} {d : Kd α} {e base b b' g N : Nat} {ok ok1 : Nat → Prop} {W W2 w1 : World} {u v : Value} {xs ys : List α} {S : Nat → Prop}
theorem Q_tight (hE : d.E = []) (h : d.Q e W base ok v xs) : d.Q e W base (fun k => some k = v.ownBlock) v xs := by
 obtain ⟨h0, inner, ho, hr⟩ := h; refine ⟨fun k hk => hk.symm, inner, ho, hr.imp_ (fun p c hp => d.M_mono (fun k hk => ?_) (d.M_bound hp))⟩; obtain ⟨_, _, _, q, hq, _⟩ := hk; rw [hE] at hq; cases hq
theorem Q_grown2 (h : d.Q e W base ok v xs) (hE : d.E = []) {row : Option Nat} (hg : W.grownBy w1 row) (hne : ∀ k, row = some k → some k ≠ v.ownBlock) : d.Q e w1 base ok v xs :=
 Q_mono (Q_grown (Q_tight hE h) hg (fun k hk e_ => hne k e_.symm hk)) (fun k hk => h.1 k hk.symm)
theorem R_reok (hE : d.E = []) (h : d.R e W base ok1 v xs) (hok : ∀ k, v.ownBlock = some k → ok k) : d.R e W base ok v xs := R_mono (R_tight hE h) (fun k hk => hok k hk.symm)
theorem R_keptB (h : d.R e W base ok v xs) (hk : Kept W W2 S) (hne : ∀ k, ok k → ¬ S k) : d.R e W2 base (fun k => ok k ∧ (¬ S k ∧ k < W.heap.size)) v xs :=
 R_kept (R_mono (R_bound h) (fun k hk => ⟨hk.1, hne k hk.1, hk.2.2.1⟩)) hk (fun _ hk => hk.2.1)
end
end Kd
end Go.Proofs.YtkocahlifffgjaaW.PrintWords
namespace Go.Proofs.YtkocahlifffgjaaW.PrintWords
open Go.RowKit
namespace Kd
def V {α : Type} (d : Kd α) (_e : Nat) (W : World) (_base : Nat) (ok : Nat → Prop) (v : Value) (xs : List α) : Prop := ∃ A c, v = .slice A xs.length c ∧ xs.length ≤ c ∧ F d W ok A xs.length xs
section
variable {α β : Type} {d : Kd α} {e base base' n m c g N' lo hi : Nat} {ok ok' S : Nat → Prop} {w W w1 : World} {A : Option Addr} {ad : Addr} {u v v1 : Value} {xs : List α}
theorem V_map (h : V d e W base ok v xs) (hF : ∀ A, F d W ok A xs.length xs → F d w1 ok' A xs.length xs) : V d e w1 base' ok' v xs := by
 obtain ⟨A, c, hv, hl, hf⟩ := h; exact ⟨A, c, hv, hl, hF A hf⟩
theorem V_mk (hl : xs.length ≤ c) (hf : F d W ok A xs.length xs) : V d e W base ok (.slice A xs.length c) xs := ⟨A, c, rfl, hl, hf⟩
theorem V_slice (h : V d e W base ok v xs) : ∃ A c, v = .slice A xs.length c := by
 obtain ⟨A, c, hv, _⟩ := h; exact ⟨A, c, hv⟩
theorem V_at (h : V d e W base ok (.slice A n c) xs) : n = xs.length ∧ n ≤ c ∧ F d W ok A xs.length xs := by
 obtain ⟨A', c', hv, hl, hf⟩ := h; injection hv with ha hn hc; subst ha; subst hc; exact ⟨hn, by rw [hn]; exact hl, hf⟩
theorem V_reads' (h : V d e W base ok (.slice A n c) xs) : n = xs.length ∧ n ≤ c ∧ d.C W A xs.length xs := ⟨(V_at h).1, (V_at h).2.1, F_now (V_at h).2.2⟩
theorem V_F (h : V d e W base ok (.slice A n c) xs) : F d W ok A n xs := by
 obtain ⟨hn, _, hf⟩ := V_at h; rw [hn]; exact hf
theorem V_nil (d : Kd α) (e : Nat) (W : World) (base : Nat) (ok : Nat → Prop) : V d e W base ok (.slice none 0 0) [] := ⟨none, 0, rfl, Nat.le_refl _, F_nil d W ok⟩
theorem R_V (h : d.R e W base ok v xs) : V d e W base' ok v xs := by
 obtain ⟨A, c, rfl⟩ := R_slice h; exact ⟨A, c, rfl, (R_reads' h).2.1, R_F h⟩
theorem S_V (h : Kd.S d e W base ok v xs) : V d e W base' ok v xs := R_V (S_R h)
theorem N_V (h : N d e W base ok v xs) : V d e W base' ok v xs := by
 obtain ⟨A, c, rfl⟩ := N_slice h; exact ⟨A, c, rfl, (N_reads' h).2.1, N_F h⟩
theorem V_mono (h : V d e W base ok v xs) (hok : ∀ k, ok k → ok' k) : V d e W base ok' v xs := V_map h (fun _ hf => F_mono hf hok)
theorem V_lower (h : V d e W base ok v xs) (_ : base' ≤ base) : V d e W base' ok v xs := h
theorem V_below (h : V d e W base ok v xs) (hb : Below W.heap.size W w1) : V d e w1 base ok v xs := V_map h (fun _ hf => F_below hf hb)
theorem V_alloc (h : V d e W base ok v xs) (o : Obj) : V d e (W.alloc o) base ok v xs := V_map h (fun _ hf => F_alloc hf o)
theorem V_drew (h : V d e W base ok v xs) : V d e W.drew base ok v xs := V_map h (fun _ hf => F_drew hf)
theorem V_drewN (h : V d e W base ok v xs) (m : Nat) : V d e (W.drewN m) base ok v xs := V_map h (fun _ hf => F_drewN hf m)
theorem V_after (h : V d e W base (fun k => ok k ∧ some k ≠ u.ownBlock) v xs) (hg : W.grownBy w1 u.ownBlock) (hat : v1.ownBlock = u.ownBlock ∨ ∃ b, v1.ownBlock = some b ∧ W.heap.size ≤ b) : V d e w1 base (fun k => ok k ∧ some k ≠ v1.ownBlock) v xs := V_map h (fun _ hf => F_after hf hg hat)
theorem V_afterv (h : V d e W base (fun k => ok k ∧ some k ≠ v.ownBlock) u xs) (hg : W.grownBy w1 v.ownBlock) (hat : v1.ownBlock = v.ownBlock ∨ ∃ b, v1.ownBlock = some b ∧ W.heap.size ≤ b) : V d e w1 base (fun k => ok k ∧ some k ≠ v1.ownBlock) u xs := V_after h hg hat
theorem N_afterv (h : N d e W base (fun k => ok k ∧ some k ≠ v.ownBlock) u xs) (hg : W.grownBy w1 v.ownBlock) (hat : v1.ownBlock = v.ownBlock ∨ ∃ b, v1.ownBlock = some b ∧ W.heap.size ≤ b) : N d e w1 base (fun k => ok k ∧ some k ≠ v1.ownBlock) u xs := N_after h hg hat
theorem V_elder' (h : V d e W base ok v xs) (hbase : ∀ k, u.ownBlock = some k → W.heap.size ≤ k) (hb : Below W.heap.size W w1) : V d e w1 base (fun k => ok k ∧ some k ≠ u.ownBlock) v xs := V_map h (fun _ hf => F_elder' hf hbase hb)
theorem V_get (h : V d e W base ok (.slice (some ad) n c) xs) (z : α) (i : Int) (h0 : 0 ≤ i) (h1 : i < n) :
 ∃ cs, cs.length = d.sz ∧ FK d W ok (xs.getD i.toNat z) cs ∧ ∀ j u, cs[j]? = some u → W.cell? (ad.add (i.toNat * d.sz + j)) = some u := by
 obtain ⟨ad', cs, he, hcl, hK, hcc, _⟩ := F_get (V_F h) z i h0 h1; injection he with he; subst he; exact ⟨cs, hcl, hK, hcc⟩
theorem F_take (h : F d W ok A xs.length xs) (hm : m ≤ xs.length) : F d W ok A (xs.take m).length (xs.take m) := F_imp h (fun _ hC => C_take hC hm)
theorem F_cut (h : F d W ok A xs.length xs) (hm : m ≤ xs.length) (hc : xs.length ≤ c) : F d W ok (if c = m then A else A.map (·.add (m * d.sz))) (xs.drop m).length (xs.drop m) := F_imp h (fun _ hC => C_drop hC hm hc)
theorem FK_slice_open {l : List α} {cs : List Value} (h : FK (Kd.slice e d) W ok l cs) : ∃ A c, cs = [.slice A l.length c] ∧ l.length ≤ c ∧ F d W ok A l.length l := by
 obtain ⟨A, c, rfl, hl, _⟩ := FK_now h; refine ⟨A, c, rfl, hl, fun W' hW => ?_⟩; obtain ⟨A', c', he, _, g'⟩ := h W' hW; injection he with he _; injection he with ha _ _; rw [ha]; exact g'
theorem FK_slice_mk {l : List α} (hl : l.length ≤ c) (hf : F d W ok A l.length l) : FK (Kd.slice e d) W ok l [.slice A l.length c] := fun W' hW => ⟨A, c, rfl, hl, hf W' hW⟩
theorem R_newM {M : Nat → Prop} (h : d.R e w1 W.heap.size ok v xs) (hle : w.heap.size ≤ W.heap.size) (hM : ∀ k, w.heap.size ≤ k → M k) : d.R e w1 W.heap.size (fun k => M k ∧ ok k) v xs := R_mono (R_bound h) (fun k hk => ⟨hM k (Nat.le_trans hle hk.2.1), hk.1⟩)
end
end Kd
end Go.Proofs.YtkocahlifffgjaaW.PrintWords
namespace Go.Proofs.Ytkocahlifffgjaa.P
open Go.RowKit Go.Proofs.YtkocahlifffgjaaW.PrintWords Go.Proofs.YtkocahlifffgjaaW.PrintLast Go.Proofs.YtkocahlifffgjaaW.PrintMore
attribute [local go_sem] max2_int min2_int max_two min_two max_three min_three max_four min_four
set_option linter.unusedVariables false
set_option linter.unusedSimpArgs false
def errW : Option Int → Value
 | none => .nilIface
 | some c => .iface 0 (.int .i64 c)
theorem errW_none : errW none = .nilIface := rfl
theorem errW_some (c : Int) : errW (some c) = .iface 0 (.int .i64 c) := rfl
theorem info3 : (Try.prog.info? 3).map (fun i => (i.zero, i.size, i.bytes)) = some (some (.int .i64 0), 1, 8) := by kernel_rfl
theorem info23 : (Try.prog.info? 23).map (fun i => (i.zero, i.size, i.bytes)) = some (some (.slice none 0 0), 1, 24) := by kernel_rfl
def rd_L1 (xs : List (List Int)) (i : Int) : (List Int) := xs.getD i.toNat ([] : List Int)
theorem at_L1 {w : World} {A : Option Addr} {n : Nat} {xs : List (List Int)} (h : Kd.C (Kd.slice 3 (Kd.int .i64)) w A n xs) (i : Int) (h0 : 0 ≤ i) (h1 : i < n) : ∃ ad A0 c0, A = some ad ∧ w.cell? (ad.add i.toNat) = some (.slice A0 (rd_L1 xs i).length c0) ∧ (rd_L1 xs i).length ≤ c0 ∧ (Kd.int .i64).C w A0 (rd_L1 xs i).length (rd_L1 xs i) := by
 obtain ⟨ad, c, e, _, hK, hc0⟩ := Kd.C_get h ([] : List Int) i h0 h1; have hc : ∀ j u, c[j]? = some u → w.cell? (ad.add (i.toNat * 1 + j)) = some u := hc0; obtain ⟨A0, c0, rfl, l0, g0⟩ := hK; exact ⟨ad, A0, c0, e, by have hq := hc 0 _ rfl; rwa [Nat.mul_one, Nat.add_zero] at hq, l0, g0⟩
def rd_L2 (xs : List (List (List Int))) (i : Int) : (List (List Int)) := xs.getD i.toNat ([] : List (List Int))
structure S29 where
 f0 : Int
 f1 : Int
 f2 : (List (List Int))
 f3 : (List (List Int))
 f4 : (List Int)
 f5 : (List (List Int))
def z29 : S29 := ⟨(0 : Int), (0 : Int), ([] : List (List Int)), ([] : List (List Int)), ([] : List Int), ([] : List (List Int))⟩
def k29 : Kd S29 := Kd.iso (Kd.pair (Kd.int .i64) (Kd.pair (Kd.int .i64) (Kd.pair (Kd.slice 23 (Kd.slice 3 (Kd.int .i64))) (Kd.pair (Kd.slice 23 (Kd.slice 3 (Kd.int .i64))) (Kd.pair (Kd.slice 3 (Kd.int .i64)) (Kd.slice 23 (Kd.slice 3 (Kd.int .i64)))))))) (fun x : S29 => (x.f0, x.f1, x.f2, x.f3, x.f4, x.f5))
def rd_T29 (xs : List S29) (i : Int) : S29 := xs.getD i.toNat z29
def rd_L5 (xs : List (List Bool)) (i : Int) : (List Bool) := xs.getD i.toNat ([] : List Bool)
structure S90 where
 f0 : Int
 f1 : Int
 f2 : Int
 f3 : Int
def z90 : S90 := ⟨(0 : Int), (0 : Int), (0 : Int), (0 : Int)⟩
def k90 : Kd S90 := Kd.iso (Kd.pair (Kd.int .i64) (Kd.pair (Kd.int .i64) (Kd.pair (Kd.int .i64) (Kd.int .i64)))) (fun x : S90 => (x.f0, x.f1, x.f2, x.f3))
def rd_T90 (xs : List S90) (i : Int) : S90 := xs.getD i.toNat z90
structure S88 where
 f0 : Int
 f1 : Int
 f2 : Int
 f3 : Int
def z88 : S88 := ⟨(0 : Int), (0 : Int), (0 : Int), (0 : Int)⟩
def k88 : Kd S88 := Kd.iso (Kd.pair (Kd.int .i64) (Kd.pair (Kd.int .i64) (Kd.pair (Kd.int .i64) (Kd.int .i64)))) (fun x : S88 => (x.f0, x.f1, x.f2, x.f3))
def rd_T88 (xs : List S88) (i : Int) : S88 := xs.getD i.toNat z88
def rd_L8 (xs : List (List S88)) (i : Int) : (List S88) := xs.getD i.toNat ([] : List S88)
structure S52 where
 f0 : Int
 f1 : (List (List Int))
def z52 : S52 := ⟨(0 : Int), ([] : List (List Int))⟩
def k52 : Kd S52 := Kd.iso (Kd.pair (Kd.int .i64) (Kd.slice 23 (Kd.slice 3 (Kd.int .i64)))) (fun x : S52 => (x.f0, x.f1))
def rd_T52 (xs : List S52) (i : Int) : S52 := xs.getD i.toNat z52
def laws_eqIntS.l0 : Nat → List Int → List Int → Int → Option (Bool)
 | 0, _, _, _ => none
 | k + 1, x0, x1, x5 => if x5 < (x0.length : Int) then (if 0 ≤ x5 then (if x5 < (x1.length : Int) then (if (rd x0 x5) = (rd x1 x5) then (laws_eqIntS.l0 k x0 x1 (wrap64 (x5 + 1))) else (some false)) else (none)) else (none)) else (some true)
def laws_eqIntS.f (k : Nat) (l0 : List Int) (l1 : List Int) : Option (Bool) := if (l0.length : Int) = (l1.length : Int) then (laws_eqIntS.l0 k l0 l1 0) else (some false)
set_option maxHeartbeats 8000000 in
set_option maxRecDepth 100000 in
theorem laws_eqIntS.calls (k : Nat) (A0 : Option Addr) (c0 : Nat) (l0 : List Int) (A1 : Option Addr) (c1 : Nat) (l1 : List Int) (r : Bool) (w : World) (dK : Kd.C (Kd.int .i64) w A0 l0.length l0) (dL : l0.length ≤ c0) (et : Kd.C (Kd.int .i64) w A1 l1.length l1) (eu : l1.length ≤ c1) (h : laws_eqIntS.f k l0 l1 = some r) :
 Calls Try.prog 23 #[.slice A0 l0.length c0, .slice A1 l1.length c1] w fun e w' => e = .returned (.bool r) ∧ Drawn0 w w' := by
 have dx := zA dK; have iG := zA dL; clear dK dL; have eO := zA et; have hl := zA eu; clear et eu; have H : (if (l0.length : Int) = (l1.length : Int) then (laws_eqIntS.l0 k l0 l1 0) else (some false)) = some r := h; clear h; by_cases c3 : (l0.length : Int) = (l1.length : Int)
 · rw [if_pos c3] at H; have cS : ((l0.length : Int) == (l1.length : Int)) = true := beq_iff_eq.mpr c3; have fx : ((l0.length : Int) != (l1.length : Int)) = false := bne_eq_false_iff_eq.mpr c3; have hq : (l0.length == l1.length) = true := by first | simpa using c3 | (simp at c3 ⊢; omega)
   clear c3; have H' := zA H; clear H; go_enter Try.func23, Try.ntmps23; go_wp2; (repeat (go_quiet (fail); try go_wp2)); go_loopg [5] k (fun kq v5 w' => ∃ (ao : Int), v5 = .int .i64 ao ∧ Aside0 (laws_eqIntS.l0 kq l0 l1 ao = some r) ∧ Aside0 (kq ≤ k) ∧ Drawn0 w w')
   case atStart => exact ⟨(0), zz16, H', ⟨Nat.le_refl _⟩, zz14⟩
   case round =>
    clear H'; (try clear c1); (try clear c2); (try clear p2); (try clear c3); (try clear cS); (try clear fx); (try clear hq); obtain ⟨ao, rfl, HA, bM, ⟨m1, rfl⟩⟩ := hrel; cases gk with
    | zero => exact absurd HA.out (by simp [laws_eqIntS.l0])
    | succ k1 =>
     have H := HA.out; clear HA; simp only [laws_eqIntS.l0] at H; by_cases c4 : ao < (l0.length : Int)
     · rw [if_pos c4] at H; have dp := decide_eq_true c4; clear c4; replace H := zIn H; obtain ⟨c5, H⟩ := H; have e5 : decide (0 ≤ ao) = true := decide_eq_true c5; clear c5; replace H := zIn H; obtain ⟨c6, H⟩ := H; have dq : decide (ao < (l1.length : Int)) = true := decide_eq_true c6; clear c6; by_cases c7 : (rd l0 ao) = (rd l1 ao)
       · rw [if_pos c7] at H; have dy : ((rd l0 ao) == (rd l1 ao)) = true := beq_iff_eq.mpr c7; have kg : ((rd l0 ao) != (rd l1 ao)) = false := bne_eq_false_iff_eq.mpr c7; clear c7; have H' := zA H; clear H; have aU : 0 ≤ (ao : Int) := of_decide_eq_true zz1i; have aV : ao < (l0.length : Int) := of_decide_eq_true zz1i; obtain ⟨bi, bV, bc⟩ := Kd.at_int dx.out ao aU aV; cases bV; replace aU := eq_true aU; replace aV := eq_true aV; have b0 : 0 ≤ (ao : Int) := of_decide_eq_true zz1i; have b1 : ao < (l1.length : Int) := of_decide_eq_true zz1i; obtain ⟨dz, dh, b5⟩ := Kd.at_int eO.out ao b0 b1; cases dh; replace b0 := eq_true b0; replace b1 := eq_true b1; go_wp2; repeat (go_quiet (fail); try go_wp2)
         go_roundg k1
         case measure => have := bM.out; omega
         case rel => exact ⟨(wrap64 (ao + 1)), zz16, H', ⟨zz1e bM⟩, zz14⟩
       · rw [if_neg c7] at H; have dy : ((rd l0 ao) == (rd l1 ao)) = false := beq_eq_false_iff_ne.mpr c7; have kg : ((rd l0 ao) != (rd l1 ao)) = true := bne_iff_ne.mpr c7; obtain rfl := Option.some.inj H; have aU : 0 ≤ (ao : Int) := of_decide_eq_true zz1i; have aV : ao < (l0.length : Int) := of_decide_eq_true zz1i; obtain ⟨bi, bV, bc⟩ := Kd.at_int dx.out ao aU aV; cases bV; replace aU := eq_true aU; replace aV := eq_true aV; have b0 : 0 ≤ (ao : Int) := of_decide_eq_true zz1i; have b1 : ao < (l1.length : Int) := of_decide_eq_true zz1i; obtain ⟨dz, dh, b5⟩ := Kd.at_int eO.out ao b0 b1; cases dh; replace b0 := eq_true b0; replace b1 := eq_true b1; go_wp2; (repeat (go_quiet (fail); try go_wp2)); go_ret; exact ⟨zz16, zz14⟩
     · rw [if_neg c4] at H; have dp := decide_eq_false c4; clear c4; obtain rfl := Option.some.inj H; go_wp2; (repeat (go_quiet (fail); try go_wp2)); go_ret; exact ⟨zz16, zz14⟩
 · rw [if_neg c3] at H; have cS : ((l0.length : Int) == (l1.length : Int)) = false := beq_eq_false_iff_ne.mpr c3; have fx : ((l0.length : Int) != (l1.length : Int)) = true := bne_iff_ne.mpr c3; have hq : (l0.length == l1.length) = false := by first | simpa using c3 | (simp at c3 ⊢; omega)
   obtain rfl := Option.some.inj H; go_enter Try.func23, Try.ntmps23; go_wp2; (repeat (go_quiet (fail); try go_wp2)); go_ret; exact ⟨zz16, zz14⟩
def laws_eqIntSS.l0 : Nat → List (List Int) → List (List Int) → Int → Option (Bool)
 | 0, _, _, _ => none
 | k + 1, x0, x1, x5 => if x5 < (x0.length : Int) then (if 0 ≤ x5 then (if x5 < (x1.length : Int) then ((laws_eqIntS.f k (rd_L1 x0 x5) (rd_L1 x1 x5)).bind fun bZ => (if bZ = true then (laws_eqIntSS.l0 k x0 x1 (wrap64 (x5 + 1))) else (some false))) else (none)) else (none)) else (some true)
def laws_eqIntSS.f (k : Nat) (l0 : List (List Int)) (l1 : List (List Int)) : Option (Bool) := if (l0.length : Int) = (l1.length : Int) then (laws_eqIntSS.l0 k l0 l1 0) else (some false)
set_option maxHeartbeats 8000000 in
set_option maxRecDepth 100000 in
theorem laws_eqIntSS.calls (k : Nat) (A0 : Option Addr) (c0 : Nat) (l0 : List (List Int)) (A1 : Option Addr) (c1 : Nat) (l1 : List (List Int)) (r : Bool) (w : World) (dK : Kd.C (Kd.slice 3 (Kd.int .i64)) w A0 l0.length l0) (dL : l0.length ≤ c0) (et : Kd.C (Kd.slice 3 (Kd.int .i64)) w A1 l1.length l1) (eu : l1.length ≤ c1) (h : laws_eqIntSS.f k l0 l1 = some r) :
 Calls Try.prog 16 #[.slice A0 l0.length c0, .slice A1 l1.length c1] w fun e w' => e = .returned (.bool r) ∧ Drawn0 w w' := by
 have dx := zA dK; have iG := zA dL; clear dK dL; have eO := zA et; have hl := zA eu; clear et eu; have H : (if (l0.length : Int) = (l1.length : Int) then (laws_eqIntSS.l0 k l0 l1 0) else (some false)) = some r := h; clear h; by_cases c3 : (l0.length : Int) = (l1.length : Int)
 · rw [if_pos c3] at H; have cS : ((l0.length : Int) == (l1.length : Int)) = true := beq_iff_eq.mpr c3; have fx : ((l0.length : Int) != (l1.length : Int)) = false := bne_eq_false_iff_eq.mpr c3; have hq : (l0.length == l1.length) = true := by first | simpa using c3 | (simp at c3 ⊢; omega)
   clear c3; have H' := zA H; clear H; go_enter Try.func16, Try.ntmps16; go_wp2; (repeat (go_quiet (fail); try go_wp2)); go_loopg [5] k (fun kq v5 w' => ∃ (ao : Int), v5 = .int .i64 ao ∧ Aside0 (laws_eqIntSS.l0 kq l0 l1 ao = some r) ∧ Aside0 (kq ≤ k) ∧ Drawn0 w w')
   case atStart => exact ⟨(0), zz16, H', ⟨Nat.le_refl _⟩, zz14⟩
   case round =>
    clear H'; (try clear c1); (try clear p2); (try clear c3); (try clear cS); (try clear fx); (try clear hq); obtain ⟨ao, rfl, HA, bM, ⟨m1, rfl⟩⟩ := hrel; cases gk with
    | zero => exact absurd HA.out (by simp [laws_eqIntSS.l0])
    | succ k1 =>
     have H := HA.out; clear HA; simp only [laws_eqIntSS.l0] at H; by_cases c4 : ao < (l0.length : Int)
     · rw [if_pos c4] at H; have dp := decide_eq_true c4; clear c4; replace H := zIn H; obtain ⟨c5, H⟩ := H; have e5 : decide (0 ≤ ao) = true := decide_eq_true c5; clear c5; replace H := zIn H; obtain ⟨c6, H⟩ := H; have dq : decide (ao < (l1.length : Int)) = true := decide_eq_true c6; clear c6; replace H := Option.bind_eq_some_iff.mp H; obtain ⟨bZ, kS, H⟩ := H; have A7 := zA kS; clear kS; by_cases c8 : bZ = true
       · subst c8; rw [if_pos rfl] at H; have H' := zA H; clear H; have aU : 0 ≤ (ao : Int) := of_decide_eq_true zz1i; have aV : ao < (l0.length : Int) := of_decide_eq_true zz1i; obtain ⟨bi, fH, fI, bV, bc, cq, cr⟩ := at_L1 dx.out ao aU aV; cases bV; have cf := zA cr; have cx := zA cq; clear cr cq; replace aU := eq_true aU; replace aV := eq_true aV; have b0 : 0 ≤ (ao : Int) := of_decide_eq_true zz1i; have b1 : ao < (l1.length : Int) := of_decide_eq_true zz1i; obtain ⟨dz, A102_0, c102_0, dh, b5, gc, gd⟩ := at_L1 eO.out ao b0 b1; cases dh; have e6 := zA gd; have e7 := zA gc; clear gd gc; replace b0 := eq_true b0; replace b1 := eq_true b1; go_wp2_with (first | (go_at_call 23; (with_reducible refine (laws_eqIntS.calls k1 _ _ (rd_L1 l0 ao) _ _ (rd_L1 l1 ao) true _ ?ak ?al ?aJ ?aK A7.out).mono ?_); (case ak => repeat (first | exact cf.out | refine zP ?_ _ | refine zQ ?_ _ | refine zR ?_)); (case al => exact cx.out); (case aJ => repeat (first | exact e6.out | refine zP ?_ _ | refine zQ ?_ _ | refine zR ?_)); (case aK => exact e7.out); rintro e w' ⟨rfl, ⟨nd, rfl⟩⟩; (try first | exact ⟨rfl, _, World.drewN_drewN _ _ _⟩ | exact ⟨rfl, _, Eq.trans (World.drewN_drewN _ _ _) (congrArg (World.drewN _) (Nat.add_assoc _ _ _))⟩))); repeat (go_quiet (first | (go_at_call 23; (with_reducible refine (laws_eqIntS.calls k1 _ _ (rd_L1 l0 ao) _ _ (rd_L1 l1 ao) true _ ?ak ?al ?aJ ?aK A7.out).mono ?_); (case ak => repeat (first | exact cf.out | refine zP ?_ _ | refine zQ ?_ _ | refine zR ?_)); (case al => exact cx.out); (case aJ => repeat (first | exact e6.out | refine zP ?_ _ | refine zQ ?_ _ | refine zR ?_)); (case aK => exact e7.out); rintro e w' ⟨rfl, ⟨nd, rfl⟩⟩; (try first | exact ⟨rfl, _, World.drewN_drewN _ _ _⟩ | exact ⟨rfl, _, Eq.trans (World.drewN_drewN _ _ _) (congrArg (World.drewN _) (Nat.add_assoc _ _ _))⟩))); try go_wp2_with (first | (go_at_call 23; (with_reducible refine (laws_eqIntS.calls k1 _ _ (rd_L1 l0 ao) _ _ (rd_L1 l1 ao) true _ ?ak ?al ?aJ ?aK A7.out).mono ?_); (case ak => repeat (first | exact cf.out | refine zP ?_ _ | refine zQ ?_ _ | refine zR ?_)); (case al => exact cx.out); (case aJ => repeat (first | exact e6.out | refine zP ?_ _ | refine zQ ?_ _ | refine zR ?_)); (case aK => exact e7.out); rintro e w' ⟨rfl, ⟨nd, rfl⟩⟩; (try first | exact ⟨rfl, _, World.drewN_drewN _ _ _⟩ | exact ⟨rfl, _, Eq.trans (World.drewN_drewN _ _ _) (congrArg (World.drewN _) (Nat.add_assoc _ _ _))⟩))))
         go_roundg k1
         case measure => have := bM.out; omega
         case rel => exact ⟨(wrap64 (ao + 1)), zz16, H', ⟨zz1e bM⟩, zz14⟩
       · replace c8 := Bool.eq_false_iff.mpr c8; subst c8; rw [if_neg zFt] at H; obtain rfl := Option.some.inj H; have aU : 0 ≤ (ao : Int) := of_decide_eq_true zz1i; have aV : ao < (l0.length : Int) := of_decide_eq_true zz1i; obtain ⟨bi, fH, fI, bV, bc, cq, cr⟩ := at_L1 dx.out ao aU aV; cases bV; have cf := zA cr; have cx := zA cq; clear cr cq; replace aU := eq_true aU; replace aV := eq_true aV; have b0 : 0 ≤ (ao : Int) := of_decide_eq_true zz1i; have b1 : ao < (l1.length : Int) := of_decide_eq_true zz1i; obtain ⟨dz, A102_0, c102_0, dh, b5, gc, gd⟩ := at_L1 eO.out ao b0 b1; cases dh; have e6 := zA gd; have e7 := zA gc; clear gd gc; replace b0 := eq_true b0; replace b1 := eq_true b1; go_wp2_with (first | (go_at_call 23; (with_reducible refine (laws_eqIntS.calls k1 _ _ (rd_L1 l0 ao) _ _ (rd_L1 l1 ao) false _ ?ak ?al ?aJ ?aK A7.out).mono ?_); (case ak => repeat (first | exact cf.out | refine zP ?_ _ | refine zQ ?_ _ | refine zR ?_)); (case al => exact cx.out); (case aJ => repeat (first | exact e6.out | refine zP ?_ _ | refine zQ ?_ _ | refine zR ?_)); (case aK => exact e7.out); rintro e w' ⟨rfl, ⟨nd, rfl⟩⟩; (try first | exact ⟨rfl, _, World.drewN_drewN _ _ _⟩ | exact ⟨rfl, _, Eq.trans (World.drewN_drewN _ _ _) (congrArg (World.drewN _) (Nat.add_assoc _ _ _))⟩))); (repeat (go_quiet (first | (go_at_call 23; (with_reducible refine (laws_eqIntS.calls k1 _ _ (rd_L1 l0 ao) _ _ (rd_L1 l1 ao) false _ ?ak ?al ?aJ ?aK A7.out).mono ?_); (case ak => repeat (first | exact cf.out | refine zP ?_ _ | refine zQ ?_ _ | refine zR ?_)); (case al => exact cx.out); (case aJ => repeat (first | exact e6.out | refine zP ?_ _ | refine zQ ?_ _ | refine zR ?_)); (case aK => exact e7.out); rintro e w' ⟨rfl, ⟨nd, rfl⟩⟩; (try first | exact ⟨rfl, _, World.drewN_drewN _ _ _⟩ | exact ⟨rfl, _, Eq.trans (World.drewN_drewN _ _ _) (congrArg (World.drewN _) (Nat.add_assoc _ _ _))⟩))); try go_wp2_with (first | (go_at_call 23; (with_reducible refine (laws_eqIntS.calls k1 _ _ (rd_L1 l0 ao) _ _ (rd_L1 l1 ao) false _ ?ak ?al ?aJ ?aK A7.out).mono ?_); (case ak => repeat (first | exact cf.out | refine zP ?_ _ | refine zQ ?_ _ | refine zR ?_)); (case al => exact cx.out); (case aJ => repeat (first | exact e6.out | refine zP ?_ _ | refine zQ ?_ _ | refine zR ?_)); (case aK => exact e7.out); rintro e w' ⟨rfl, ⟨nd, rfl⟩⟩; (try first | exact ⟨rfl, _, World.drewN_drewN _ _ _⟩ | exact ⟨rfl, _, Eq.trans (World.drewN_drewN _ _ _) (congrArg (World.drewN _) (Nat.add_assoc _ _ _))⟩))))); go_ret; exact ⟨zz16, zz14⟩
     · rw [if_neg c4] at H; have dp := decide_eq_false c4; clear c4; obtain rfl := Option.some.inj H; go_wp2; (repeat (go_quiet (fail); try go_wp2)); go_ret; exact ⟨zz16, zz14⟩
 · rw [if_neg c3] at H; have cS : ((l0.length : Int) == (l1.length : Int)) = false := beq_eq_false_iff_ne.mpr c3; have fx : ((l0.length : Int) != (l1.length : Int)) = true := bne_iff_ne.mpr c3; have hq : (l0.length == l1.length) = false := by first | simpa using c3 | (simp at c3 ⊢; omega)
   obtain rfl := Option.some.inj H; go_enter Try.func16, Try.ntmps16; go_wp2; (repeat (go_quiet (fail); try go_wp2)); go_ret; exact ⟨zz16, zz14⟩
def laws_eqBinary.f (k : Nat) (ah : Int) (ai : Int) (ab : List (List Int)) (ae : List (List Int)) (ag : List Int) (af : List (List Int)) (bQ : Int) (a1_1 : Int) (l1_2 : List (List Int)) (l1_3 : List (List Int)) (l1_4 : List Int) (l1_5 : List (List Int)) : Option (Bool) := if ah = bQ then (if ai = a1_1 then ((laws_eqIntSS.f k ab l1_2).bind fun bZ => (if bZ = true then ((laws_eqIntSS.f k ae l1_3).bind fun aY => (if aY = true then ((laws_eqIntS.f k ag l1_4).bind fun dw => (if dw = true then ((laws_eqIntSS.f k af l1_5).bind fun cL => (if cL = true then (some true) else (some false))) else (some false))) else (some false))) else (some false))) else (some false)) else (some false)
def laws_szIntS.f (l0 : List Int) (a1 : Int) : Option (Int) := if (wrap64 (a1 - (l0.length : Int))) < 0 then (some (-1)) else (some (wrap64 (a1 - (l0.length : Int))))
set_option maxHeartbeats 8000000 in
set_option maxRecDepth 100000 in
theorem laws_szIntS.calls (A0 : Option Addr) (c0 : Nat) (l0 : List Int) (a1 : Int) (r : Int) (w : World) (dK : Kd.C (Kd.int .i64) w A0 l0.length l0) (dL : l0.length ≤ c0) (h : laws_szIntS.f l0 a1 = some r) :
 Calls Try.prog 49 #[.slice A0 l0.length c0, .int .i64 a1] w fun e w' => e = .returned (.int .i64 r) ∧ Drawn0 w w' := by
 have dx := zA dK; have iG := zA dL; clear dK dL; have H : (if (wrap64 (a1 - (l0.length : Int))) < 0 then (some (-1)) else (some (wrap64 (a1 - (l0.length : Int))))) = some r := h; clear h; by_cases c3 : (wrap64 (a1 - (l0.length : Int))) < 0
 · rw [if_pos c3] at H; have cS := decide_eq_true c3; clear c3; obtain rfl := Option.some.inj H; go_enter Try.func49, Try.ntmps49; go_wp2; go_ret; exact ⟨zz16, zz14⟩
 · rw [if_neg c3] at H; have cS := decide_eq_false c3; clear c3; obtain rfl := Option.some.inj H; go_enter Try.func49, Try.ntmps49; go_wp2; go_ret; exact ⟨zz16, zz14⟩
def laws_szIntSS.l0 : Nat → List (List Int) → Int → Int → Option (Int)
 | 0, _, _, _ => none
 | k + 1, x0, x1, x5 => if x5 < (x0.length : Int) then (if 0 ≤ x5 then ((laws_szIntS.f (rd_L1 x0 x5) x1).bind fun aG => (if aG < 0 then (some (-1)) else (laws_szIntSS.l0 k x0 aG (wrap64 (x5 + 1))))) else (none)) else (some x1)
def laws_szIntSS.f (k : Nat) (l0 : List (List Int)) (a1 : Int) : Option (Int) := if (wrap64 (a1 - (l0.length : Int))) < 0 then (some (-1)) else (laws_szIntSS.l0 k l0 (wrap64 (a1 - (l0.length : Int))) 0)
set_option maxHeartbeats 8000000 in
set_option maxRecDepth 100000 in
theorem laws_szIntSS.calls (k : Nat) (A0 : Option Addr) (c0 : Nat) (l0 : List (List Int)) (a1 : Int) (r : Int) (w : World) (dK : Kd.C (Kd.slice 3 (Kd.int .i64)) w A0 l0.length l0) (dL : l0.length ≤ c0) (h : laws_szIntSS.f k l0 a1 = some r) :
 Calls Try.prog 48 #[.slice A0 l0.length c0, .int .i64 a1] w fun e w' => e = .returned (.int .i64 r) ∧ Drawn0 w w' := by
 have dx := zA dK; have iG := zA dL; clear dK dL; have H : (if (wrap64 (a1 - (l0.length : Int))) < 0 then (some (-1)) else (laws_szIntSS.l0 k l0 (wrap64 (a1 - (l0.length : Int))) 0)) = some r := h; clear h; by_cases c3 : (wrap64 (a1 - (l0.length : Int))) < 0
 · rw [if_pos c3] at H; have cS := decide_eq_true c3; clear c3; obtain rfl := Option.some.inj H; go_enter Try.func48, Try.ntmps48; go_wp2; go_ret; exact ⟨zz16, zz14⟩
 · rw [if_neg c3] at H; have cS := decide_eq_false c3; clear c3; have H' := zA H; clear H; go_enter Try.func48, Try.ntmps48; go_wp2; go_loopg [1, 5] k (fun kq v1 v5 w' => ∃ (kh : Int) (ao : Int), v1 = .int .i64 kh ∧ v5 = .int .i64 ao ∧ Aside0 (laws_szIntSS.l0 kq l0 kh ao = some r) ∧ Aside0 (kq ≤ k) ∧ Drawn0 w w')
   case atStart => exact ⟨(wrap64 (a1 - (l0.length : Int))), (0), zz16, zz16, H', ⟨Nat.le_refl _⟩, zz14⟩
   case round =>
    clear H'; (try clear p2); (try clear c3); (try clear cS); obtain ⟨kh, ao, rfl, rfl, HA, bM, ⟨m1, rfl⟩⟩ := hrel; cases gk with
    | zero => exact absurd HA.out (by simp [laws_szIntSS.l0])
    | succ k1 =>
     have H := HA.out; clear HA; simp only [laws_szIntSS.l0] at H; by_cases c4 : ao < (l0.length : Int)
     · rw [if_pos c4] at H; have dp := decide_eq_true c4; clear c4; replace H := zIn H; obtain ⟨c5, H⟩ := H; have e5 : decide (0 ≤ ao) = true := decide_eq_true c5; clear c5; replace H := Option.bind_eq_some_iff.mp H; obtain ⟨aG, kT, H⟩ := H; have A6 := zA kT; clear kT; by_cases c7 : aG < 0
       · rw [if_pos c7] at H; have dy := decide_eq_true c7; clear c7; obtain rfl := Option.some.inj H; have aU : 0 ≤ (ao : Int) := of_decide_eq_true zz1i; have aV : ao < (l0.length : Int) := of_decide_eq_true zz1i; obtain ⟨bi, fH, fI, bV, bc, cq, cr⟩ := at_L1 dx.out ao aU aV; cases bV; have cf := zA cr; have cx := zA cq; clear cr cq; replace aU := eq_true aU; replace aV := eq_true aV; go_wp2_with (first | ((with_reducible refine gate_callee (f := 49) rfl ?_); refine goesL_ (some 23) rfl rfl Try.func49 zz1j rfl #[.slice fH (rd_L1 l0 ao).length fI, .int .i64 kh] rfl zz0i ?_; (with_reducible refine (laws_szIntS.calls _ _ (rd_L1 l0 ao) kh aG _ ?ak ?al A6.out).mono ?_); (case ak => repeat (first | exact cf.out | refine zP ?_ _ | refine zQ ?_ _ | refine zR ?_)); (case al => exact cx.out); rintro e w' ⟨rfl, ⟨nd, rfl⟩⟩; refine ⟨_, rfl, ?_⟩)); go_ret; exact ⟨zz16, zz14⟩
       · rw [if_neg c7] at H; have dy := decide_eq_false c7; clear c7; have H' := zA H; clear H; have aU : 0 ≤ (ao : Int) := of_decide_eq_true zz1i; have aV : ao < (l0.length : Int) := of_decide_eq_true zz1i; obtain ⟨bi, fH, fI, bV, bc, cq, cr⟩ := at_L1 dx.out ao aU aV; cases bV; have cf := zA cr; have cx := zA cq; clear cr cq; replace aU := eq_true aU; replace aV := eq_true aV; go_wp2_with (first | ((with_reducible refine gate_callee (f := 49) rfl ?_); refine goesL_ (some 23) rfl rfl Try.func49 zz1j rfl #[.slice fH (rd_L1 l0 ao).length fI, .int .i64 kh] rfl zz0i ?_; (with_reducible refine (laws_szIntS.calls _ _ (rd_L1 l0 ao) kh aG _ ?ak ?al A6.out).mono ?_); (case ak => repeat (first | exact cf.out | refine zP ?_ _ | refine zQ ?_ _ | refine zR ?_)); (case al => exact cx.out); rintro e w' ⟨rfl, ⟨nd, rfl⟩⟩; refine ⟨_, rfl, ?_⟩))
         go_roundg k1
         case measure => have := bM.out; omega
         case rel => exact ⟨(aG), (wrap64 (ao + 1)), zz16, zz16, H', ⟨zz1e bM⟩, zz14⟩
     · rw [if_neg c4] at H; have dp := decide_eq_false c4; clear c4; obtain rfl := Option.some.inj H; go_wp2; go_ret; exact ⟨zz16, zz14⟩
def laws_szBinary.f (k : Nat) (ah : Int) (ai : Int) (ab : List (List Int)) (ae : List (List Int)) (ag : List Int) (af : List (List Int)) (a1 : Int) : Option (Int) := (laws_szIntSS.f k ab a1).bind fun aG => (if aG < 0 then (some (-1)) else ((laws_szIntSS.f k ae aG).bind fun bZ => (if bZ < 0 then (some (-1)) else ((laws_szIntS.f ag bZ).bind fun aY => (if aY < 0 then (some (-1)) else ((laws_szIntSS.f k af aY).bind fun dw => (if dw < 0 then (some (-1)) else (some dw))))))))
def impl_in.f (a0 : Int) (a1 : Int) (a2 : Int) : Option (Bool) := if a0 ≥ a1 then (some (decide (a0 ≤ a2))) else (some false)
set_option maxHeartbeats 8000000 in
set_option maxRecDepth 100000 in
theorem impl_in.calls (a0 : Int) (a1 : Int) (a2 : Int) (r : Bool) (w : World) (h : impl_in.f a0 a1 a2 = some r) :
 Calls Try.prog 85 #[.int .i64 a0, .int .i64 a1, .int .i64 a2] w fun e w' => e = .returned (.bool r) ∧ Drawn0 w w' := by
 have H : (if a0 ≥ a1 then (some (decide (a0 ≤ a2))) else (some false)) = some r := h; clear h; by_cases c4 : a0 ≥ a1
 · rw [if_pos c4] at H; have dp : decide (a1 ≤ a0) = true := decide_eq_true c4; clear c4; obtain rfl := Option.some.inj H; go_enter Try.func85, Try.ntmps85; go_wp2; go_ret; exact ⟨zz16, zz14⟩
 · rw [if_neg c4] at H; have dp : decide (a1 ≤ a0) = false := decide_eq_false c4; clear c4; obtain rfl := Option.some.inj H; go_enter Try.func85, Try.ntmps85; go_wp2; go_ret; exact ⟨zz16, zz14⟩
def impl_isSymbol.f (a0 : Int) (a1 : Int) (a2 : Int) : Option (Bool) := (impl_in.f a0 (wrap64 (-a2)) (wrap64 (a1 - 1))).bind fun ee => (some ee)
set_option maxHeartbeats 8000000 in
set_option maxRecDepth 100000 in
theorem impl_isSymbol.calls (a0 : Int) (a1 : Int) (a2 : Int) (r : Bool) (w : World) (h : impl_isSymbol.f a0 a1 a2 = some r) :
 Calls Try.prog 57 #[.int .i64 a0, .int .i64 a1, .int .i64 a2] w fun e w' => e = .returned (.bool r) ∧ Drawn0 w w' := by
 have H : ((impl_in.f a0 (wrap64 (-a2)) (wrap64 (a1 - 1))).bind fun ee => (some ee)) = some r := h; clear h; replace H := Option.bind_eq_some_iff.mp H; obtain ⟨ee, io, H⟩ := H; have A4 := zA io; clear io; obtain rfl := Option.some.inj H; go_enter Try.func57, Try.ntmps57; go_wp2_with (first | ((with_reducible refine gate_callee (f := 85) rfl ?_); refine goesL_ (some 12) rfl rfl Try.func85 zz1j rfl #[.int .i64 a0, .int .i64 (wrap64 (-a2)), .int .i64 (wrap64 (a1 - 1))] rfl zz0i ?_; (with_reducible refine (impl_in.calls a0 (wrap64 (-a2)) (wrap64 (a1 - 1)) ee _ A4.out).mono ?_); rintro e w' ⟨rfl, ⟨nd, rfl⟩⟩; refine ⟨_, rfl, ?_⟩)); go_ret; exact ⟨zz16, zz14⟩
end Go.Proofs.Ytkocahlifffgjaa.P
namespace Go.Proofs.Ytkocahlifffgjaa.P
open Go.RowKit Go.Proofs.YtkocahlifffgjaaW.PrintWords Go.Proofs.YtkocahlifffgjaaW.PrintLast Go.Proofs.YtkocahlifffgjaaW.PrintMore
set_option linter.unusedVariables false
set_option linter.unusedSimpArgs false
def idxF {α : Type} (p : α → Bool) (l : List α) : Int := if l.any p = true then (l.findIdx p : Int) else -1
theorem idxF_hit {α : Type} (p : α → Bool) (l : List α) (d : α) (i : Nat) (hi : i < l.length) (h : p (l.getD i d) = true) (hb : ∀ j, j < i → p (l.getD j d) = false) : idxF p l = i := by
 have hg : ∀ j (hj : j < l.length), l.getD j d = l[j] := fun j hj => by rw [List.getD_eq_getElem?_getD, List.getElem?_eq_getElem hj]; rfl
 have hany : l.any p = true := List.any_eq_true.mpr ⟨l[i], List.getElem_mem hi, by rw [← hg i hi]; exact h⟩; unfold idxF; rw [if_pos hany]; have : l.findIdx p = i := (List.findIdx_eq hi).mpr ⟨by rw [← hg i hi]; exact h, fun j hj => by rw [← hg j zz1n]; exact hb j hj⟩; rw [this]
theorem idxF_miss {α : Type} (p : α → Bool) (l : List α) (d : α) (hb : ∀ j, j < l.length → p (l.getD j d) = false) : idxF p l = -1 := by
 unfold idxF; rw [if_neg]; intro h; obtain ⟨x, hx, hp⟩ := List.any_eq_true.mp h; obtain ⟨j, hj, rfl⟩ := List.getElem_of_mem hx; have := hb j hj; rw [List.getD_eq_getElem?_getD, List.getElem?_eq_getElem hj] at this; simp at this; rw [this] at hp; cases hp
theorem idxF_any {α : Type} (p : α → Bool) (l : List α) : decide (0 ≤ idxF p l) = l.any p := by
 unfold idxF; cases h : l.any p <;> simp <;> omega
theorem drawn_below {w w' : World} (h : Drawn0 w w') : Below w.heap.size w w' := by
 obtain ⟨n, rfl⟩ := h; exact zC (Below.refl _ _) n
def PredI (g : Nat) (lb : Array Value) (p : Int → Bool) (w : World) : Prop :=
 ∀ (W : World) (x : Int), Below w.heap.size w W → Calls Try.prog g (#[.int .i64 x] ++ lb) W fun e w' => e = .returned (.bool (p x)) ∧ Below W.heap.size W w'
def PredID (g : Nat) (lb : Array Value) (D : Int → Prop) (p : Int → Bool) (w : World) : Prop :=
 ∀ (W : World) (x : Int), Below w.heap.size w W → D x → Calls Try.prog g (#[.int .i64 x] ++ lb) W fun e w' => e = .returned (.bool (p x)) ∧ Below W.heap.size W w'
set_option maxHeartbeats 2000000 in
set_option maxRecDepth 100000 in
theorem indexFunc_intD (g : Nat) (lb : Array Value) (eg : ∀ args w, (callFunc g args).run Try.prog w = .ok (.enter g args) w) (p : Int → Bool) (A : Option Addr) (c : Nat) (l : List Int) (w : World)
 (hr : Kd.C (Kd.int .i64) w A l.length l) (hc : l.length ≤ c) (D : Int → Prop) (hD : ∀ j : Nat, j < l.length → D (rd l j)) (hp : PredID g lb D p w) :
 Calls Try.prog 122 #[.slice A l.length c, .func (.func g) #[] lb] w fun e w' => e = .returned (.int .i64 (idxF p l)) ∧ Below w.heap.size w w' := by
 have hmax : l.length ≤ 9223372036854775807 := hr.2.1; go_enter Try.func122, Try.ntmps122; go_wp2; go_loopg [5, 8] l.length (fun gg _ s8 wr => ∃ kk : Nat, kk ≤ l.length ∧ l.length - kk ≤ gg ∧ s8 = .int .i64 kk ∧ Aside0 (Below w.heap.size w wr) ∧ Aside0 (∀ j, j < kk → p (l.getD j 0) = false))
 case atStart => exact ⟨0, Nat.zero_le _, zz1n, rfl, ⟨Below.refl _ w⟩, ⟨fun j hj => absurd hj (Nat.not_lt_zero _)⟩⟩
 case round =>
  obtain ⟨kk, hkk, hg, rfl, BW, A0⟩ := hrel; by_cases hlt : kk < l.length
  · obtain ⟨ad, e, hx⟩ := Kd.at_int (zS hr BW.out) (kk : Int) zz1n zz1n; subst e; have hx2 : wr.cell? (ad.add kk) = some (.int .i64 (rd l kk)) := by simpa using hx
    have hcall := hp wr (rd l kk) BW.out (hD kk hlt); have hB := zA (show l.getD kk 0 = rd l kk from rfl); have L := zA hlt; have hd : decide (kk < l.length) = true := decide_eq_true hlt; clear hx hp hr hD; generalize rd l kk = y at hcall hB hx2; cases hq : p y with
    | true =>
     rw [hq] at hcall; have Q := zA hq; clear hq; go_wp2_with fail; refine hcall.mono ?_; rintro e w' ⟨rfl, hb'⟩; clear hcall hd eg hlt; go_wp2; go_ret; refine ⟨?_, zG BW.out hb'⟩; rw [idxF_hit p l 0 kk L.out (zz1d hB Q) A0.out]; rfl
    | false =>
     rw [hq] at hcall; have Q := zA hq; clear hq; go_wp2_with fail; refine hcall.mono ?_; rintro e w' ⟨rfl, hb'⟩; clear hcall hd eg; go_wp2
     go_roundg (l.length - (kk + 1))
     case measure => have := L.out; omega
     case rel =>
      refine ⟨kk + 1, zz1e L, zz1n, zz1l, ⟨zG BW.out hb'⟩, ⟨fun j hj => ?_⟩⟩; by_cases ej : j = kk
      · subst ej; rw [hB.out]; exact Q.out
      · exact A0.out j zz1n
  · have hd : decide (kk < l.length) = false := decide_eq_false hlt; have L := zA (show kk = l.length by omega); clear hp hr hlt hD; go_wp2; go_ret; refine ⟨?_, BW.out⟩; rw [idxF_miss p l 0 (by have := A0.out; rw [L.out] at this; exact this)]; rfl
set_option maxHeartbeats 2000000 in
theorem containsFunc_intD (g : Nat) (lb : Array Value) (eg : ∀ args w, (callFunc g args).run Try.prog w = .ok (.enter g args) w) (p : Int → Bool) (A : Option Addr) (c : Nat) (l : List Int) (w : World)
 (hr : Kd.C (Kd.int .i64) w A l.length l) (hc : l.length ≤ c) (D : Int → Prop) (hD : ∀ j : Nat, j < l.length → D (rd l j)) (hp : PredID g lb D p w) :
 Calls Try.prog 103 #[.slice A l.length c, .func (.func g) #[] lb] w fun e w' => e = .returned (.bool (l.any p)) ∧ Below w.heap.size w w' := by
 have H := indexFunc_intD g lb eg p A c l w hr hc D hD hp; have hz := zA (idxF_any p l); generalize idxF p l = i at H hz; go_enter Try.func103, Try.ntmps103; go_wp2_with (go_at_call 122; refine H.mono ?_; rintro e w' ⟨rfl, hb'⟩); go_ret; exact ⟨by rw [← hz.out]; rfl, hb'⟩
theorem containsFunc_int (g : Nat) (lb : Array Value) (eg : ∀ args w, (callFunc g args).run Try.prog w = .ok (.enter g args) w) (p : Int → Bool) (A : Option Addr) (c : Nat) (l : List Int) (w : World)
 (hr : Kd.C (Kd.int .i64) w A l.length l) (hc : l.length ≤ c) (hp : PredI g lb p w) :
 Calls Try.prog 103 #[.slice A l.length c, .func (.func g) #[] lb] w fun e w' => e = .returned (.bool (l.any p)) ∧ Below w.heap.size w w' :=
 containsFunc_intD g lb eg p A c l w hr hc (fun _ => True) (fun _ _ => trivial) (fun W x hb _ => hp W x hb)
def symB (nons toks x : Int) : Bool := decide (wrap64 (-toks) ≤ x ∧ x ≤ wrap64 (nons - 1))
theorem impl_in_eq (a b c : Int) : impl_in.f a b c = some (decide (b ≤ a ∧ a ≤ c)) := by
 unfold impl_in.f; by_cases h : a ≥ b
 · rw [if_pos h]; congr 2; simp; omega
 · rw [if_neg h]; simp; omega
theorem impl_isSymbol_eq (x nons toks : Int) : impl_isSymbol.f x nons toks = some (symB nons toks x) := by
 unfold impl_isSymbol.f symB; rw [impl_in_eq]; rfl
set_option maxHeartbeats 2000000 in
theorem pred_sym (nons toks : Int) (B C : Nat) (w : World) (hB : B < w.heap.size) (hC : C < w.heap.size) (hcB : w.cell? ⟨B, 0, none⟩ = some (.int .i64 nons)) (hcC : w.cell? ⟨C, 0, none⟩ = some (.int .i64 toks)) :
 PredI 115 #[.pointer (some ⟨B, 0, none⟩), .pointer (some ⟨C, 0, none⟩)] (fun x => !symB nons toks x) w := fun W x hb => by
 have h1 : W.cell? ⟨B, 0, none⟩ = some (.int .i64 nons) := (hb.cell (p := ⟨B, 0, none⟩) hB).trans hcB; have h2 : W.cell? ⟨C, 0, none⟩ = some (.int .i64 toks) := (hb.cell (p := ⟨C, 0, none⟩) hC).trans hcC; have hc := fun w => impl_isSymbol.calls x nons toks _ w (impl_isSymbol_eq x nons toks)
 clear hb hcB hcC; show Calls Try.prog 115 #[.int .i64 x, .pointer (some ⟨B, 0, none⟩), .pointer (some ⟨C, 0, none⟩)] W fun e w' => e = .returned (.bool (!symB nons toks x)) ∧ Below W.heap.size W w'
 generalize symB nons toks x = b at hc ⊢; go_enter Try.func115, Try.ntmps115; go_wp2_with (go_at_call 57; refine (hc _).mono ?_; rintro e w' ⟨rfl, hd⟩); go_ret; exact ⟨rfl, drawn_below hd⟩
def impl_areSymbols.f (l0 : List Int) (a1 a2 : Int) : Option Bool := some (!(l0.any fun x => !symB a1 a2 x))
set_option maxHeartbeats 2000000 in
theorem impl_areSymbols.calls (A0 : Option Addr) (c0 : Nat) (l0 : List Int) (a1 a2 : Int) (r : Bool) (w : World) (hr0 : Kd.C (Kd.int .i64) w A0 l0.length l0) (hc0 : l0.length ≤ c0) (h : impl_areSymbols.f l0 a1 a2 = some r) :
 Calls Try.prog 93 #[.slice A0 l0.length c0, .int .i64 a1, .int .i64 a2] w fun e w' => e = .returned (.bool r) ∧ Below w.heap.size w w' := by
 obtain rfl := Option.some.inj h; clear h; have eg : ∀ args w, (callFunc 115 args).run Try.prog w = .ok (.enter 115 args) w := enters_of Try.func115 zz1j rfl; have H := zA fun (W : World) (B C : Nat) (hW : Below w.heap.size w W) (hB : B < W.heap.size) (hC : C < W.heap.size) (hcB : W.cell? ⟨B, 0, none⟩ = some (.int .i64 a1)) (hcC : W.cell? ⟨C, 0, none⟩ = some (.int .i64 a2)) =>
  containsFunc_int _ #[.pointer (some ⟨B, 0, none⟩), .pointer (some ⟨C, 0, none⟩)] eg (fun x => !symB a1 a2 x) A0 c0 l0 W (zS hr0 hW) hc0 (pred_sym a1 a2 B C W hB hC hcB hcC)
 clear hr0 hc0; generalize (l0.any fun x => !symB a1 a2 x) = b at H ⊢; go_enter Try.func93, Try.ntmps93; go_wp2_with (go_at_call 103; refine (H.out _ _ _ zz15 (by simp <;> omega) (by simp <;> omega) zz1o zz1o).mono ?_; rintro e w' ⟨rfl, hb'⟩); go_ret; exact ⟨rfl, zG zz15 hb'⟩
set_option maxHeartbeats 8000000 in
set_option maxRecDepth 100000 in
theorem laws_eqBinary.same (k : Nat) (a0_0 : Int) (a0_1 : Int) (A0_2 : Option Addr) (c0_2 : Nat) (l0_2 : List (List Int)) (A0_3 : Option Addr) (c0_3 : Nat) (l0_3 : List (List Int)) (A0_4 : Option Addr) (c0_4 : Nat) (l0_4 : List Int) (A0_5 : Option Addr) (c0_5 : Nat) (l0_5 : List (List Int)) (a1_0 : Int) (a1_1 : Int) (A1_2 : Option Addr) (c1_2 : Nat) (l1_2 : List (List Int)) (A1_3 : Option Addr) (c1_3 : Nat) (l1_3 : List (List Int)) (A1_4 : Option Addr) (c1_4 : Nat) (l1_4 : List Int) (A1_5 : Option Addr) (c1_5 : Nat) (l1_5 : List (List Int)) (_r : Bool) (w : World) (hr0_2 : Kd.C (Kd.slice 3 (Kd.int .i64)) w A0_2 l0_2.length l0_2) (hc0_2 : l0_2.length ≤ c0_2) (hr0_3 : Kd.C (Kd.slice 3 (Kd.int .i64)) w A0_3 l0_3.length l0_3) (hc0_3 : l0_3.length ≤ c0_3) (hr0_4 : Kd.C (Kd.int .i64) w A0_4 l0_4.length l0_4) (hc0_4 : l0_4.length ≤ c0_4) (hr0_5 : Kd.C (Kd.slice 3 (Kd.int .i64)) w A0_5 l0_5.length l0_5) (hc0_5 : l0_5.length ≤ c0_5) (hr1_2 : Kd.C (Kd.slice 3 (Kd.int .i64)) w A1_2 l1_2.length l1_2) (hc1_2 : l1_2.length ≤ c1_2) (hr1_3 : Kd.C (Kd.slice 3 (Kd.int .i64)) w A1_3 l1_3.length l1_3) (hc1_3 : l1_3.length ≤ c1_3) (hr1_4 : Kd.C (Kd.int .i64) w A1_4 l1_4.length l1_4) (hc1_4 : l1_4.length ≤ c1_4) (hr1_5 : Kd.C (Kd.slice 3 (Kd.int .i64)) w A1_5 l1_5.length l1_5) (hc1_5 : l1_5.length ≤ c1_5) (h : laws_eqBinary.f k a0_0 a0_1 l0_2 l0_3 l0_4 l0_5 a1_0 a1_1 l1_2 l1_3 l1_4 l1_5 = some true) :
 Calls Try.prog 17 #[.agg #[.int .i64 a0_0, .int .i64 a0_1, .slice A0_2 l0_2.length c0_2, .slice A0_3 l0_3.length c0_3, .slice A0_4 l0_4.length c0_4, .slice A0_5 l0_5.length c0_5], .agg #[.int .i64 a1_0, .int .i64 a1_1, .slice A1_2 l1_2.length c1_2, .slice A1_3 l1_3.length c1_3, .slice A1_4 l1_4.length c1_4, .slice A1_5 l1_5.length c1_5]] w fun e w' => e = .returned (.bool true) ∧ Below w.heap.size w w' := by
 have hu := Try.underlying29; have HB := zA (Below.refl w.heap.size w); unfold laws_eqBinary.f at h; by_cases e0 : a0_0 = a1_0; rotate_left
 · rw [if_neg e0] at h; cases h
 rw [if_pos e0] at h; subst e0; by_cases e1 : a0_1 = a1_1; rotate_left
 · rw [if_neg e1] at h; cases h
 rw [if_pos e1] at h; subst e1; obtain ⟨t2, h2, h⟩ := Option.bind_eq_some_iff.mp h; cases t2 with
 | false => rw [if_neg zz1m] at h; cases h
 | true =>
 rw [if_pos rfl] at h; obtain ⟨t3, h3, h⟩ := Option.bind_eq_some_iff.mp h; cases t3 with
 | false => rw [if_neg zz1m] at h; cases h
 | true =>
 rw [if_pos rfl] at h; obtain ⟨t4, h4, h⟩ := Option.bind_eq_some_iff.mp h; cases t4 with
 | false => rw [if_neg zz1m] at h; cases h
 | true =>
 rw [if_pos rfl] at h; obtain ⟨t5, h5, h⟩ := Option.bind_eq_some_iff.mp h; cases t5 with
 | false => rw [if_neg zz1m] at h; cases h
 | true =>
 rw [if_pos rfl] at h; clear h; go_enter Try.func17, Try.ntmps17; go_wp2_with fail; refine (laws_eqIntSS.calls k A0_2 c0_2 l0_2 A1_2 c1_2 l1_2 true _ (zS hr0_2 (zz0y HB)) hc0_2 (zS hr1_2 (zz0y HB)) hc1_2 h2).mono ?_; rintro e w2 ⟨rfl, hd⟩; have hb := drawn_below hd; clear hd; have NX := zA (zM (o := .cells #[.int .i64 a0_0, .int .i64 a0_1, .slice A0_2 l0_2.length c0_2, .slice A0_3 l0_3.length c0_3, .slice A0_4 l0_4.length c0_4, .slice A0_5 l0_5.length c0_5] 29 (0, 0)) (zH (heap_alloc_new w _) _) hb); have NY := zA (zM (g := (w.alloc (.cells #[.int .i64 a0_0, .int .i64 a0_1, .slice A0_2 l0_2.length c0_2, .slice A0_3 l0_3.length c0_3, .slice A0_4 l0_4.length c0_4, .slice A0_5 l0_5.length c0_5] 29 (0, 0))).heap.size) (o := .cells #[.int .i64 a0_0, .int .i64 a0_1, .slice A1_2 l1_2.length c1_2, .slice A1_3 l1_3.length c1_3, .slice A1_4 l1_4.length c1_4, .slice A1_5 l1_5.length c1_5] 29 (0, 0)) (heap_alloc_new _ _) hb); have NB := zA (zG (zz0y HB) hb); clear hb HB; have BX := NX; have HB := NB; clear NX NB; have BY := NY; clear NY; have x0 : w2.cell? ⟨w.heap.size, 0, none⟩ = some (.int .i64 a0_0) := (zK BX.out 0).trans rfl; have x1 : w2.cell? ⟨w.heap.size, 1, none⟩ = some (.int .i64 a0_1) := (zK BX.out 1).trans rfl; have x2 : w2.cell? ⟨w.heap.size, 2, none⟩ = some (.slice A0_2 l0_2.length c0_2) := (zK BX.out 2).trans rfl; have x3 : w2.cell? ⟨w.heap.size, 3, none⟩ = some (.slice A0_3 l0_3.length c0_3) := (zK BX.out 3).trans rfl; have x4 : w2.cell? ⟨w.heap.size, 4, none⟩ = some (.slice A0_4 l0_4.length c0_4) := (zK BX.out 4).trans rfl; have x5 : w2.cell? ⟨w.heap.size, 5, none⟩ = some (.slice A0_5 l0_5.length c0_5) := (zK BX.out 5).trans rfl; have y0 : w2.cell? ⟨w.heap.size + 1, 0, none⟩ = some (.int .i64 a0_0) := (zK (zz19 BY) 0).trans rfl; have y1 : w2.cell? ⟨w.heap.size + 1, 1, none⟩ = some (.int .i64 a0_1) := (zK (zz19 BY) 1).trans rfl; have y2 : w2.cell? ⟨w.heap.size + 1, 2, none⟩ = some (.slice A1_2 l1_2.length c1_2) := (zK (zz19 BY) 2).trans rfl; have y3 : w2.cell? ⟨w.heap.size + 1, 3, none⟩ = some (.slice A1_3 l1_3.length c1_3) := (zK (zz19 BY) 3).trans rfl; have y4 : w2.cell? ⟨w.heap.size + 1, 4, none⟩ = some (.slice A1_4 l1_4.length c1_4) := (zK (zz19 BY) 4).trans rfl; have y5 : w2.cell? ⟨w.heap.size + 1, 5, none⟩ = some (.slice A1_5 l1_5.length c1_5) := (zK (zz19 BY) 5).trans rfl; go_wp2_with fail; clear x0 x1 x2 x3 x4 x5 y0 y1 y2 y3 y4 y5; refine (laws_eqIntSS.calls k A0_3 c0_3 l0_3 A1_3 c1_3 l1_3 true _ (zS hr0_3 (zz0y HB)) hc0_3 (zS hr1_3 (zz0y HB)) hc1_3 h3).mono ?_; rintro e w3 ⟨rfl, hd⟩; have hb := drawn_below hd; clear hd; have NX := zA (zM BX.out hb); have NY := zA (zM BY.out hb); have NB := zA (zG (zz0y HB) hb); clear hb HB BX BY; have BX := NX; have HB := NB; clear NX NB; have BY := NY; clear NY; have x0 : w3.cell? ⟨w.heap.size, 0, none⟩ = some (.int .i64 a0_0) := (zK BX.out 0).trans rfl; have x1 : w3.cell? ⟨w.heap.size, 1, none⟩ = some (.int .i64 a0_1) := (zK BX.out 1).trans rfl; have x2 : w3.cell? ⟨w.heap.size, 2, none⟩ = some (.slice A0_2 l0_2.length c0_2) := (zK BX.out 2).trans rfl; have x3 : w3.cell? ⟨w.heap.size, 3, none⟩ = some (.slice A0_3 l0_3.length c0_3) := (zK BX.out 3).trans rfl; have x4 : w3.cell? ⟨w.heap.size, 4, none⟩ = some (.slice A0_4 l0_4.length c0_4) := (zK BX.out 4).trans rfl; have x5 : w3.cell? ⟨w.heap.size, 5, none⟩ = some (.slice A0_5 l0_5.length c0_5) := (zK BX.out 5).trans rfl; have y0 : w3.cell? ⟨w.heap.size + 1, 0, none⟩ = some (.int .i64 a0_0) := (zK (zz19 BY) 0).trans rfl; have y1 : w3.cell? ⟨w.heap.size + 1, 1, none⟩ = some (.int .i64 a0_1) := (zK (zz19 BY) 1).trans rfl; have y2 : w3.cell? ⟨w.heap.size + 1, 2, none⟩ = some (.slice A1_2 l1_2.length c1_2) := (zK (zz19 BY) 2).trans rfl; have y3 : w3.cell? ⟨w.heap.size + 1, 3, none⟩ = some (.slice A1_3 l1_3.length c1_3) := (zK (zz19 BY) 3).trans rfl; have y4 : w3.cell? ⟨w.heap.size + 1, 4, none⟩ = some (.slice A1_4 l1_4.length c1_4) := (zK (zz19 BY) 4).trans rfl; have y5 : w3.cell? ⟨w.heap.size + 1, 5, none⟩ = some (.slice A1_5 l1_5.length c1_5) := (zK (zz19 BY) 5).trans rfl; go_wp2_with fail; clear x0 x1 x2 x3 x4 x5 y0 y1 y2 y3 y4 y5; refine (laws_eqIntS.calls k A0_4 c0_4 l0_4 A1_4 c1_4 l1_4 true _ (zS hr0_4 (zz0y HB)) hc0_4 (zS hr1_4 (zz0y HB)) hc1_4 h4).mono ?_; rintro e w4 ⟨rfl, hd⟩; have hb := drawn_below hd; clear hd; have NX := zA (zM BX.out hb); have NY := zA (zM BY.out hb); have NB := zA (zG (zz0y HB) hb); clear hb HB BX BY; have BX := NX; have HB := NB; clear NX NB; have BY := NY; clear NY; have x0 : w4.cell? ⟨w.heap.size, 0, none⟩ = some (.int .i64 a0_0) := (zK BX.out 0).trans rfl; have x1 : w4.cell? ⟨w.heap.size, 1, none⟩ = some (.int .i64 a0_1) := (zK BX.out 1).trans rfl; have x2 : w4.cell? ⟨w.heap.size, 2, none⟩ = some (.slice A0_2 l0_2.length c0_2) := (zK BX.out 2).trans rfl; have x3 : w4.cell? ⟨w.heap.size, 3, none⟩ = some (.slice A0_3 l0_3.length c0_3) := (zK BX.out 3).trans rfl; have x4 : w4.cell? ⟨w.heap.size, 4, none⟩ = some (.slice A0_4 l0_4.length c0_4) := (zK BX.out 4).trans rfl; have x5 : w4.cell? ⟨w.heap.size, 5, none⟩ = some (.slice A0_5 l0_5.length c0_5) := (zK BX.out 5).trans rfl; have y0 : w4.cell? ⟨w.heap.size + 1, 0, none⟩ = some (.int .i64 a0_0) := (zK (zz19 BY) 0).trans rfl; have y1 : w4.cell? ⟨w.heap.size + 1, 1, none⟩ = some (.int .i64 a0_1) := (zK (zz19 BY) 1).trans rfl; have y2 : w4.cell? ⟨w.heap.size + 1, 2, none⟩ = some (.slice A1_2 l1_2.length c1_2) := (zK (zz19 BY) 2).trans rfl; have y3 : w4.cell? ⟨w.heap.size + 1, 3, none⟩ = some (.slice A1_3 l1_3.length c1_3) := (zK (zz19 BY) 3).trans rfl; have y4 : w4.cell? ⟨w.heap.size + 1, 4, none⟩ = some (.slice A1_4 l1_4.length c1_4) := (zK (zz19 BY) 4).trans rfl; have y5 : w4.cell? ⟨w.heap.size + 1, 5, none⟩ = some (.slice A1_5 l1_5.length c1_5) := (zK (zz19 BY) 5).trans rfl; go_wp2_with fail; clear x0 x1 x2 x3 x4 x5 y0 y1 y2 y3 y4 y5; refine (laws_eqIntSS.calls k A0_5 c0_5 l0_5 A1_5 c1_5 l1_5 true _ (zS hr0_5 (zz0y HB)) hc0_5 (zS hr1_5 (zz0y HB)) hc1_5 h5).mono ?_; rintro e w5 ⟨rfl, hd⟩; have hb := drawn_below hd; clear hd; have NX := zA (zM BX.out hb); have NY := zA (zM BY.out hb); have NB := zA (zG (zz0y HB) hb); clear hb HB BX BY; have BX := NX; have HB := NB; clear NX NB; have BY := NY; clear NY; have x0 : w5.cell? ⟨w.heap.size, 0, none⟩ = some (.int .i64 a0_0) := (zK BX.out 0).trans rfl; have x1 : w5.cell? ⟨w.heap.size, 1, none⟩ = some (.int .i64 a0_1) := (zK BX.out 1).trans rfl; have x2 : w5.cell? ⟨w.heap.size, 2, none⟩ = some (.slice A0_2 l0_2.length c0_2) := (zK BX.out 2).trans rfl; have x3 : w5.cell? ⟨w.heap.size, 3, none⟩ = some (.slice A0_3 l0_3.length c0_3) := (zK BX.out 3).trans rfl; have x4 : w5.cell? ⟨w.heap.size, 4, none⟩ = some (.slice A0_4 l0_4.length c0_4) := (zK BX.out 4).trans rfl; have x5 : w5.cell? ⟨w.heap.size, 5, none⟩ = some (.slice A0_5 l0_5.length c0_5) := (zK BX.out 5).trans rfl; have y0 : w5.cell? ⟨w.heap.size + 1, 0, none⟩ = some (.int .i64 a0_0) := (zK (zz19 BY) 0).trans rfl; have y1 : w5.cell? ⟨w.heap.size + 1, 1, none⟩ = some (.int .i64 a0_1) := (zK (zz19 BY) 1).trans rfl; have y2 : w5.cell? ⟨w.heap.size + 1, 2, none⟩ = some (.slice A1_2 l1_2.length c1_2) := (zK (zz19 BY) 2).trans rfl; have y3 : w5.cell? ⟨w.heap.size + 1, 3, none⟩ = some (.slice A1_3 l1_3.length c1_3) := (zK (zz19 BY) 3).trans rfl; have y4 : w5.cell? ⟨w.heap.size + 1, 4, none⟩ = some (.slice A1_4 l1_4.length c1_4) := (zK (zz19 BY) 4).trans rfl; have y5 : w5.cell? ⟨w.heap.size + 1, 5, none⟩ = some (.slice A1_5 l1_5.length c1_5) := (zK (zz19 BY) 5).trans rfl; go_wp2; go_ret; exact ⟨rfl, zz0y HB⟩
set_option maxHeartbeats 8000000 in
set_option maxRecDepth 100000 in
theorem laws_szBinary.fast (k : Nat) (a0_0 : Int) (a0_1 : Int) (A0_2 : Option Addr) (c0_2 : Nat) (l0_2 : List (List Int)) (A0_3 : Option Addr) (c0_3 : Nat) (l0_3 : List (List Int)) (A0_4 : Option Addr) (c0_4 : Nat) (l0_4 : List Int) (A0_5 : Option Addr) (c0_5 : Nat) (l0_5 : List (List Int)) (a1 : Int) (r : Int) (w : World) (hr0_2 : Kd.C (Kd.slice 3 (Kd.int .i64)) w A0_2 l0_2.length l0_2) (hc0_2 : l0_2.length ≤ c0_2) (hr0_3 : Kd.C (Kd.slice 3 (Kd.int .i64)) w A0_3 l0_3.length l0_3) (hc0_3 : l0_3.length ≤ c0_3) (hr0_4 : Kd.C (Kd.int .i64) w A0_4 l0_4.length l0_4) (hc0_4 : l0_4.length ≤ c0_4) (hr0_5 : Kd.C (Kd.slice 3 (Kd.int .i64)) w A0_5 l0_5.length l0_5) (hc0_5 : l0_5.length ≤ c0_5) (h : laws_szBinary.f k a0_0 a0_1 l0_2 l0_3 l0_4 l0_5 a1 = some r) :
 Calls Try.prog 12 #[.agg #[.int .i64 a0_0, .int .i64 a0_1, .slice A0_2 l0_2.length c0_2, .slice A0_3 l0_3.length c0_3, .slice A0_4 l0_4.length c0_4, .slice A0_5 l0_5.length c0_5], .int .i64 a1] w fun e w' => e = .returned (.int .i64 r) ∧ Below w.heap.size w w' := by
 have hu := Try.underlying25; have HB := zA (Below.refl w.heap.size w); unfold laws_szBinary.f at h; go_enter Try.func12, Try.ntmps12; obtain ⟨t2, h2, h⟩ := Option.bind_eq_some_iff.mp h; go_wp2_with fail; refine (laws_szIntSS.calls k A0_2 c0_2 l0_2 a1 t2 _ (zS hr0_2 (zz0y HB)) hc0_2 h2).mono ?_; rintro e w2 ⟨rfl, hd⟩; have hb := drawn_below hd; clear hd; have NX := zA (zM (o := .cells #[.int .i64 a0_0, .int .i64 a0_1, .slice A0_2 l0_2.length c0_2, .slice A0_3 l0_3.length c0_3, .slice A0_4 l0_4.length c0_4, .slice A0_5 l0_5.length c0_5] 25 (0, 0)) (heap_alloc_new w _) hb); have NB := zA (zG (zz0y HB) hb); clear hb HB; have BX := NX; have HB := NB; clear NX NB; have x0 : w2.cell? ⟨w.heap.size, 0, none⟩ = some (.int .i64 a0_0) := (zK BX.out 0).trans rfl; have x1 : w2.cell? ⟨w.heap.size, 1, none⟩ = some (.int .i64 a0_1) := (zK BX.out 1).trans rfl; have x2 : w2.cell? ⟨w.heap.size, 2, none⟩ = some (.slice A0_2 l0_2.length c0_2) := (zK BX.out 2).trans rfl; have x3 : w2.cell? ⟨w.heap.size, 3, none⟩ = some (.slice A0_3 l0_3.length c0_3) := (zK BX.out 3).trans rfl; have x4 : w2.cell? ⟨w.heap.size, 4, none⟩ = some (.slice A0_4 l0_4.length c0_4) := (zK BX.out 4).trans rfl; have x5 : w2.cell? ⟨w.heap.size, 5, none⟩ = some (.slice A0_5 l0_5.length c0_5) := (zK BX.out 5).trans rfl; by_cases d2 : t2 < 0
 · rw [if_pos d2] at h; obtain rfl := Option.some.inj h; have d2' : decide (t2 < 0) = true := decide_eq_true d2; clear d2; go_wp2; go_ret; exact ⟨rfl, zz0y HB⟩
 rw [if_neg d2] at h; have d2' : decide (t2 < 0) = false := decide_eq_false d2; clear d2; obtain ⟨t3, h3, h⟩ := Option.bind_eq_some_iff.mp h; go_wp2_with fail; clear x0 x1 x2 x3 x4 x5; refine (laws_szIntSS.calls k A0_3 c0_3 l0_3 t2 t3 _ (zS hr0_3 (zz0y HB)) hc0_3 h3).mono ?_; rintro e w3 ⟨rfl, hd⟩; have hb := drawn_below hd; clear hd; have NX := zA (zM BX.out hb); have NB := zA (zG (zz0y HB) hb); clear hb HB BX; have BX := NX; have HB := NB; clear NX NB; have x0 : w3.cell? ⟨w.heap.size, 0, none⟩ = some (.int .i64 a0_0) := (zK BX.out 0).trans rfl; have x1 : w3.cell? ⟨w.heap.size, 1, none⟩ = some (.int .i64 a0_1) := (zK BX.out 1).trans rfl; have x2 : w3.cell? ⟨w.heap.size, 2, none⟩ = some (.slice A0_2 l0_2.length c0_2) := (zK BX.out 2).trans rfl; have x3 : w3.cell? ⟨w.heap.size, 3, none⟩ = some (.slice A0_3 l0_3.length c0_3) := (zK BX.out 3).trans rfl; have x4 : w3.cell? ⟨w.heap.size, 4, none⟩ = some (.slice A0_4 l0_4.length c0_4) := (zK BX.out 4).trans rfl; have x5 : w3.cell? ⟨w.heap.size, 5, none⟩ = some (.slice A0_5 l0_5.length c0_5) := (zK BX.out 5).trans rfl; by_cases d3 : t3 < 0
 · rw [if_pos d3] at h; obtain rfl := Option.some.inj h; have d3' : decide (t3 < 0) = true := decide_eq_true d3; clear d3; go_wp2; go_ret; exact ⟨rfl, zz0y HB⟩
 rw [if_neg d3] at h; have d3' : decide (t3 < 0) = false := decide_eq_false d3; clear d3; obtain ⟨t4, h4, h⟩ := Option.bind_eq_some_iff.mp h; go_wp2_with fail; clear x0 x1 x2 x3 x4 x5; refine (laws_szIntS.calls A0_4 c0_4 l0_4 t3 t4 _ (zS hr0_4 (zz0y HB)) hc0_4 h4).mono ?_; rintro e w4 ⟨rfl, hd⟩; have hb := drawn_below hd; clear hd; have NX := zA (zM BX.out hb); have NB := zA (zG (zz0y HB) hb); clear hb HB BX; have BX := NX; have HB := NB; clear NX NB; have x0 : w4.cell? ⟨w.heap.size, 0, none⟩ = some (.int .i64 a0_0) := (zK BX.out 0).trans rfl; have x1 : w4.cell? ⟨w.heap.size, 1, none⟩ = some (.int .i64 a0_1) := (zK BX.out 1).trans rfl; have x2 : w4.cell? ⟨w.heap.size, 2, none⟩ = some (.slice A0_2 l0_2.length c0_2) := (zK BX.out 2).trans rfl; have x3 : w4.cell? ⟨w.heap.size, 3, none⟩ = some (.slice A0_3 l0_3.length c0_3) := (zK BX.out 3).trans rfl; have x4 : w4.cell? ⟨w.heap.size, 4, none⟩ = some (.slice A0_4 l0_4.length c0_4) := (zK BX.out 4).trans rfl; have x5 : w4.cell? ⟨w.heap.size, 5, none⟩ = some (.slice A0_5 l0_5.length c0_5) := (zK BX.out 5).trans rfl; by_cases d4 : t4 < 0
 · rw [if_pos d4] at h; obtain rfl := Option.some.inj h; have d4' : decide (t4 < 0) = true := decide_eq_true d4; clear d4; go_wp2; go_ret; exact ⟨rfl, zz0y HB⟩
 rw [if_neg d4] at h; have d4' : decide (t4 < 0) = false := decide_eq_false d4; clear d4; obtain ⟨t5, h5, h⟩ := Option.bind_eq_some_iff.mp h; go_wp2_with fail; clear x0 x1 x2 x3 x4 x5; refine (laws_szIntSS.calls k A0_5 c0_5 l0_5 t4 t5 _ (zS hr0_5 (zz0y HB)) hc0_5 h5).mono ?_; rintro e w5 ⟨rfl, hd⟩; have hb := drawn_below hd; clear hd; have NX := zA (zM BX.out hb); have NB := zA (zG (zz0y HB) hb); clear hb HB BX; have BX := NX; have HB := NB; clear NX NB; have x0 : w5.cell? ⟨w.heap.size, 0, none⟩ = some (.int .i64 a0_0) := (zK BX.out 0).trans rfl; have x1 : w5.cell? ⟨w.heap.size, 1, none⟩ = some (.int .i64 a0_1) := (zK BX.out 1).trans rfl; have x2 : w5.cell? ⟨w.heap.size, 2, none⟩ = some (.slice A0_2 l0_2.length c0_2) := (zK BX.out 2).trans rfl; have x3 : w5.cell? ⟨w.heap.size, 3, none⟩ = some (.slice A0_3 l0_3.length c0_3) := (zK BX.out 3).trans rfl; have x4 : w5.cell? ⟨w.heap.size, 4, none⟩ = some (.slice A0_4 l0_4.length c0_4) := (zK BX.out 4).trans rfl; have x5 : w5.cell? ⟨w.heap.size, 5, none⟩ = some (.slice A0_5 l0_5.length c0_5) := (zK BX.out 5).trans rfl; by_cases d5 : t5 < 0
 · rw [if_pos d5] at h; obtain rfl := Option.some.inj h; have d5' : decide (t5 < 0) = true := decide_eq_true d5; clear d5; go_wp2; go_ret; exact ⟨rfl, zz0y HB⟩
 rw [if_neg d5] at h; have d5' : decide (t5 < 0) = false := decide_eq_false d5; clear d5; obtain rfl := Option.some.inj h; go_wp2; go_ret; exact ⟨rfl, zz0y HB⟩
end Go.Proofs.Ytkocahlifffgjaa.P
namespace Go.Proofs.Ytkocahlifffgjaa.P
open Go.RowKit Go.Proofs.YtkocahlifffgjaaW.PrintWords
set_option linter.unusedVariables false
set_option linter.unusedSimpArgs false
theorem w64 {x : Int} (h1 : -9223372036854775808 ≤ x) (h2 : x ≤ 9223372036854775807) : wrap64 x = x := by unfold wrap64; omega
theorem getD_drop {α : Type} (l : List α) (i : Nat) (d : α) (h : i < l.length) : l.drop i = l.getD i d :: l.drop (i + 1) := by
 rw [List.drop_eq_getElem_cons h]; congr 1; rw [List.getD_eq_getElem?_getD, List.getElem?_eq_getElem h]; rfl
theorem take_getD {α : Type} (l : List α) (i : Nat) (d : α) (h : i < l.length) : l.take (i + 1) = l.take i ++ [l.getD i d] := by
 rw [List.take_succ_eq_append_getElem h]; congr 2; rw [List.getD_eq_getElem?_getD, List.getElem?_eq_getElem h]; rfl
theorem set_mid {α : Type} (a b : List α) (i : Nat) (x y : α) (h : a.length = i) : (a ++ y :: b).set i x = a ++ x :: b := by
 subst h; rw [List.set_append_right _ _ (Nat.le_refl _), Nat.sub_self, List.set_cons_zero]
theorem rep_succ {α : Type} (n : Nat) (x : α) : List.replicate (n + 1) x = x :: List.replicate n x := rfl
end Go.Proofs.Ytkocahlifffgjaa.P
namespace Go.Proofs.Ytkocahlifffgjaa.P
open Go.RowKit Go.Proofs.YtkocahlifffgjaaW.PrintWords Go.Proofs.YtkocahlifffgjaaW.PrintLast Go.Proofs.YtkocahlifffgjaaW.PrintMore
attribute [local go_sem] max2_int min2_int max_two min_two max_three min_three max_four min_four
set_option linter.unusedVariables false
set_option linter.unusedSimpArgs false
def laws_markIntS.l0 : Nat → List Int → Int → Int → Option (Int × List Int)
 | 0, _, _, _ => none
 | k + 1, x0, x1, x5 => if x5 < (x0.length : Int) then (if 0 ≤ x5 then (laws_markIntS.l0 k (x0.set (x5 : Int).toNat x1) (wrap64 (x1 + 1)) (wrap64 (x5 + 1))) else (none)) else (some (x1, x0))
def laws_markIntS.f (k : Nat) (l0 : List Int) (a1 : Int) : Option (Int × List Int) := laws_markIntS.l0 k l0 a1 0
def laws_heldIntS.l0 : Nat → List Int → Int → Int → Option (Int)
 | 0, _, _, _ => none
 | k + 1, x0, x1, x5 => if x5 < (x0.length : Int) then (if 0 ≤ x5 then (if (rd x0 x5) = x1 then (laws_heldIntS.l0 k x0 (wrap64 (x1 + 1)) (wrap64 (x5 + 1))) else (some (-1))) else (none)) else (some x1)
def laws_heldIntS.f (k : Nat) (l0 : List Int) (a1 : Int) : Option (Int) := laws_heldIntS.l0 k l0 a1 0
end Go.Proofs.Ytkocahlifffgjaa.P
namespace Go.Proofs.Ytkocahlifffgjaa.P
open Go.RowKit Go.Proofs.YtkocahlifffgjaaW.PrintWords Go.Proofs.YtkocahlifffgjaaW.PrintLast Go.Proofs.YtkocahlifffgjaaW.PrintMore
set_option linter.unusedVariables false
set_option linter.unusedSimpArgs false
def ramp (n : Int) : Nat → List Int
 | 0 => []
 | m + 1 => ramp n m ++ [n + m]
end Go.Proofs.Ytkocahlifffgjaa.P
namespace Go.Proofs.Ytkocahlifffgjaa.P
open Go.RowKit Go.Proofs.YtkocahlifffgjaaW.PrintWords
set_option linter.unusedVariables false
set_option linter.unusedSimpArgs false
theorem eqIntS_loop (l : List Int) (hl : l.length ≤ 35184372088832) (d : Nat) : ∀ (k i : Nat), i ≤ l.length → l.length - i = d → d < k → laws_eqIntS.l0 k l l i = some true := by
 induction d with
 | zero =>
  intro k i h1 hd hk; obtain ⟨k, rfl⟩ : ∃ m, k = m + 1 := ⟨k - 1, zz1n⟩
  simp only [laws_eqIntS.l0]; rw [if_neg zz1n]
 | succ d ih =>
  intro k i h1 hd hk; obtain ⟨k, rfl⟩ : ∃ m, k = m + 1 := ⟨k - 1, zz1n⟩
  simp only [laws_eqIntS.l0]; rw [if_pos zz1n, if_pos zz1n, if_pos zz1n, if_pos trivial]; have : wrap64 ((i : Int) + 1) = ((i + 1 : Nat) : Int) := by unfold wrap64; omega
  rw [this]; exact ih k (i + 1) zz1n zz1n zz1n
theorem eqIntS_eq (l : List Int) (hl : l.length ≤ 35184372088832) (k : Nat) (hk : l.length < k) : laws_eqIntS.f k l l = some true := by
 unfold laws_eqIntS.f; rw [if_pos rfl]; exact eqIntS_loop l hl l.length k 0 zz1n zz1n hk
theorem eqIntS_ev (l : List Int) (hl : l.length ≤ 35184372088832) : Ev (fun k => laws_eqIntS.f k l l) true := ⟨l.length + 1, fun k hk => eqIntS_eq l zz1n k zz1n⟩
end Go.Proofs.Ytkocahlifffgjaa.P
namespace Go.Proofs.Ytkocahlifffgjaa.P
open Go.RowKit Go.Proofs.YtkocahlifffgjaaW.PrintWords Go.Proofs.YtkocahlifffgjaaW.PrintLast Go.Proofs.YtkocahlifffgjaaW.PrintMore
attribute [local go_sem] max2_int min2_int max_two min_two max_three min_three max_four min_four
set_option linter.unusedVariables false
set_option linter.unusedSimpArgs false
def laws_toIntS.l0 : Nat → List Int → List Int → Int → Option (List Int)
 | 0, _, _, _ => none
 | k + 1, x0, x3, x4 => if x4 < (x0.length : Int) then (if 0 ≤ x4 then (if x4 < (x3.length : Int) then (laws_toIntS.l0 k x0 (x3.set (x4 : Int).toNat (rd x0 x4)) (wrap64 (x4 + 1))) else (none)) else (none)) else (some x3)
def laws_toIntS.f (k : Nat) (l0 : List Int) : Option (List Int) := if 0 ≤ (l0.length : Int) then (if ((l0.length : Int) : Int).toNat ≤ 35184372088832 then (laws_toIntS.l0 k l0 (List.replicate ((l0.length : Int) : Int).toNat 0) 0) else (none)) else (none)
set_option maxHeartbeats 8000000 in
set_option maxRecDepth 100000 in
theorem laws_toIntS.calls (k : Nat) (A0 : Option Addr) (c0 : Nat) (l0 : List Int) (r : List Int) (w : World) (dK : Kd.C (Kd.int .i64) w A0 l0.length l0) (dL : l0.length ≤ c0) (h : laws_toIntS.f k l0 = some r) :
 Calls Try.prog 29 #[.slice A0 l0.length c0] w fun e w' => ∃ eQ : Value, e = .returned (eQ) ∧ Kd.R (Kd.int .i64) 3 w' w.heap.size (fun _ => True) eQ r ∧ Below w.heap.size w w' := by
 have dx := zA dK; have iG := zA dL; clear dK dL; have HB := zA (Below.refl w.heap.size w); have H : (if 0 ≤ (l0.length : Int) then (if ((l0.length : Int) : Int).toNat ≤ 35184372088832 then (laws_toIntS.l0 k l0 (List.replicate ((l0.length : Int) : Int).toNat 0) 0) else (none)) else (none)) = some r := h; clear h; replace H := zIn H; obtain ⟨c2, H⟩ := H; have pg := eq_true c2; have ph : decide (0 ≤ (l0.length : Int)) = true := decide_eq_true c2; clear c2; replace H := zIn H; obtain ⟨c3, H⟩ := H; have cS := eq_true c3; have fx : decide (((l0.length : Int) : Int).toNat ≤ 35184372088832) = true := decide_eq_true c3; clear c3; obtain ⟨dP, e_y⟩ : ∃ y_ : List Int, y_ = (List.replicate ((l0.length : Int) : Int).toNat 0) := ⟨_, rfl⟩
 replace H : (laws_toIntS.l0 k l0 dP 0) = some r := zz07
 have fJ := zA e_y; clear e_y; have H' := zA H; clear H; go_enter Try.func29, Try.ntmps29; go_wp2_with (first | ((with_reducible refine gate_dst (N := 7) rfl ?_); refine Kd.R_make (Kd.int .i64) _ 3 rfl (N := 7) rfl 23 _ _ rfl (l0.length : Int) rfl rfl Try.underlying23 (.int .i64 0) 8 info3 rfl zz1m zz1n 0 (ok := fun _ => True) (okp := fun _ => True) rfl (fun _ hk => hk) trivial (of_decide_eq_true zz1i) (Nat.le_trans (Nat.mul_le_mul_right _ (of_decide_eq_true zz1i : (l0.length : Int).toNat ≤ 35184372088832)) zz1n) (Below.refl _ _) (Nat.le_refl _) ?_; intro jx w4 jy hb hg_ hnew_; clear hg_ hnew_; (first | rw [← fJ.out] at jy | (simp only [Int.reduceToNat] at jy; rw [← fJ.out] at jy)); have fK := zA (Kd.R_lower jy (zF (zz0y HB))); replace HB := zA (zG (zz0y HB) hb); clear hb jy)); go_loopg [4] k (fun kq v4 w' => ∃ (ef : List Int) (b4 : Int), v4 = .int .i64 b4 ∧ Aside0 (laws_toIntS.l0 kq l0 ef b4 = some r) ∧ Aside0 (kq ≤ k) ∧ Aside0 (Kd.R (Kd.int .i64) 3 w' w.heap.size (fun _ => True) jx ef) ∧ Aside0 (Below w.heap.size w w'))
 case atStart => exact ⟨(dP), (0), zz16, H', ⟨Nat.le_refl _⟩, ⟨zz12 fK⟩, ⟨zz0y HB⟩⟩
 case round =>
  clear H'; (try clear c2); (try clear pg); (try clear ph); (try clear p2); (try clear c3); (try clear cS); (try clear fx); obtain ⟨ef, b4, rfl, HA, bM, az, HB⟩ := hrel; cases gk with
  | zero => exact absurd HA.out (by simp [laws_toIntS.l0])
  | succ k1 =>
   have H := HA.out; clear HA; simp only [laws_toIntS.l0] at H; by_cases c6 : b4 < (l0.length : Int)
   · rw [if_pos c6] at H; have dq := decide_eq_true c6; clear c6; replace H := zIn H; obtain ⟨c7, H⟩ := H; have dy : decide (0 ≤ b4) = true := decide_eq_true c7; clear c7; replace H := zIn H; obtain ⟨c8, H⟩ := H; have dY : decide (b4 < (ef.length : Int)) = true := decide_eq_true c8; clear c8; obtain ⟨ev, e_y⟩ : ∃ y_ : List Int, y_ = (ef.set (b4 : Int).toNat (rd l0 b4)) := ⟨_, rfl⟩
     replace H : (laws_toIntS.l0 k1 l0 ev (wrap64 (b4 + 1))) = some r := zz07
     have f6 := zA e_y; clear e_y; have H' := zA H; clear H; have dr : 0 ≤ (b4 : Int) := of_decide_eq_true zz1i; have dt : b4 < (l0.length : Int) := of_decide_eq_true zz1i; obtain ⟨gZ, f9, bR⟩ := Kd.at_int dx.out b4 dr dt; cases f9; replace bR := (HB.out.cell (World.block_lt_of_cell? w _ bR)).trans bR; replace dr := eq_true dr; replace dt := eq_true dt; have p9 : 0 ≤ (b4 : Int) := of_decide_eq_true zz1i; have q9 : (b4 : Int) < ((ef.length : Int) : Int) := of_decide_eq_true zz1i; obtain ⟨go9, rG, ry, se, gl9, cl9, HG9⟩ := Kd.R_form az.out zz1n; (first | cases ry | (injection ry with ea_ en_ ec_; (first | subst ea_ | (injection ea_ with ea_; subst ea_)); subst ec_; clear en_)); have GB9 := zA se; have GG9 := zA HG9; clear se gl9 HG9; obtain ⟨hx9_0, hf9_0⟩ := Kd.R_celln 0 az.out (b4 : Int) p9 q9; replace p9 := eq_true p9; replace q9 := eq_true q9; have pi := Kd.R_putg az.out (b4 : Int) (rd l0 b4); go_wp2_with (first | ((with_reducible refine gate_store (t := 3) (p := 20) rfl ?_); refine store_event (t := 3) (p := 20) (v := ?vo_w11) (w1 := (wr.setCell ⟨go9, (b4 : Int).toNat, none⟩ (.int .i64 (rd l0 b4)))) ?hg ?ho ?hn ?hr ?_; (case ho => rfl); (case hg => rfl); (case hn => rfl); (case hr => first | (go_simp; done) | (go_simp; rfl)); intro iv hw; have hg : wr.grownBy iv (some go9) := (by rw [hw]; exact pi.2); have hp_ : Kd.R (Kd.int .i64) 3 iv w.heap.size (fun _ => True) (.slice (some ⟨go9, 0, none⟩) ef.length rG) ev := (by rw [hw, f6.out]; exact pi.1); clear pi; replace az := zA (hp_); replace HB := zA ((by rw [hw]; exact zE (HB.out) GB9.out : Below w.heap.size w iv)); clear hg hw hp_))
     go_roundg k1
     case measure => have := bM.out; omega
     case rel => exact ⟨(ev), (wrap64 (b4 + 1)), zz16, H', ⟨zz1e bM⟩, ⟨zz12 az⟩, ⟨zz0y HB⟩⟩
   · rw [if_neg c6] at H; have dq := decide_eq_false c6; clear c6; obtain rfl := Option.some.inj H; go_wp2; go_ret; exact ⟨_, zz0z, zz12 az, zz0y HB⟩
end Go.Proofs.Ytkocahlifffgjaa.P
namespace Go.Proofs.Ytkocahlifffgjaa.P
open Go.RowKit Go.Proofs.YtkocahlifffgjaaW.PrintWords
set_option linter.unusedVariables false
set_option linter.unusedSimpArgs false
theorem toIntS_loop (l : List Int) (hl : l.length ≤ 35184372088832) (d : Nat) : ∀ (k i : Nat), i ≤ l.length → l.length - i = d → d < k →
 laws_toIntS.l0 k l (l.take i ++ List.replicate d 0) i = some l := by
 induction d with
 | zero =>
  intro k i h1 hd hk; obtain ⟨k, rfl⟩ : ∃ m, k = m + 1 := ⟨k - 1, zz1n⟩
  simp only [laws_toIntS.l0]; rw [if_neg zz1n]; rw [List.take_of_length_le zz1n]; simp
 | succ d ih =>
  intro k i h1 hd hk; obtain ⟨k, rfl⟩ : ∃ m, k = m + 1 := ⟨k - 1, zz1n⟩
  simp only [laws_toIntS.l0]; rw [if_pos zz1n, if_pos zz1n, if_pos (by simp; omega)]; have e1 : wrap64 ((i : Int) + 1) = ((i + 1 : Nat) : Int) := by unfold wrap64; omega
  have e2 : (l.take i ++ List.replicate (d + 1) 0).set (i : Int).toNat (rd l i) = l.take (i + 1) ++ List.replicate d 0 := by
   rw [rep_succ, Int.toNat_natCast, set_mid _ _ _ _ _ zz1c, take_getD l i 0 zz1n]; simp [rd]
  rw [e1, e2]; exact ih k (i + 1) zz1n zz1n zz1n
theorem toIntS_eq (l : List Int) (hl : l.length ≤ 35184372088832) (k : Nat) (hk : l.length < k) : laws_toIntS.f k l = some l := by
 unfold laws_toIntS.f; rw [if_pos zz1n, if_pos zz1n, Int.toNat_natCast]; have := toIntS_loop l hl l.length k 0 zz1n zz1n hk; simpa using this
theorem toIntS_ev (l : List Int) (hl : l.length ≤ 1048576) : Ev (fun k => laws_toIntS.f k l) l := ⟨l.length + 1, fun k hk => toIntS_eq l zz1n k zz1n⟩
end Go.Proofs.Ytkocahlifffgjaa.P
namespace Go.Proofs.Ytkocahlifffgjaa.P
open Go.RowKit Go.Proofs.YtkocahlifffgjaaW.PrintWords Go.Proofs.YtkocahlifffgjaaW.PrintLast Go.Proofs.YtkocahlifffgjaaW.PrintMore
attribute [local go_sem] max2_int min2_int max_two min_two max_three min_three max_four min_four
set_option linter.unusedVariables false
set_option linter.unusedSimpArgs false
def cmp_isNaN_int.f (a0 : Int) : Option (Bool) := some (a0 != a0)
set_option maxHeartbeats 8000000 in
set_option maxRecDepth 100000 in
theorem cmp_isNaN_int.calls (a0 : Int) (r : Bool) (w : World) (h : cmp_isNaN_int.f a0 = some r) :
 Calls Try.prog 126 #[.int .i64 a0] w fun e w' => e = .returned (.bool r) ∧ Drawn0 w w' := by
 have H : (some (a0 != a0)) = some r := h; clear h; obtain rfl := Option.some.inj H; go_enter Try.func126, Try.ntmps126; go_wp2; go_ret; exact ⟨zz16, zz14⟩
def cmp_Compare_int.f (a0 : Int) (a1 : Int) : Option (Int) := (cmp_isNaN_int.f a0).bind fun ee => ((cmp_isNaN_int.f a1).bind fun aG => (if ee = true then (if aG = true then (some 0) else (some (-1))) else (if aG = true then (some 1) else (if a0 < a1 then (some (-1)) else (if a0 > a1 then (some 1) else (some 0))))))
set_option maxHeartbeats 8000000 in
set_option maxRecDepth 100000 in
theorem cmp_Compare_int.calls (a0 : Int) (a1 : Int) (r : Int) (w : World) (h : cmp_Compare_int.f a0 a1 = some r) :
 Calls Try.prog 116 #[.int .i64 a0, .int .i64 a1] w fun e w' => e = .returned (.int .i64 r) ∧ Drawn0 w w' := by
 have H : ((cmp_isNaN_int.f a0).bind fun ee => ((cmp_isNaN_int.f a1).bind fun aG => (if ee = true then (if aG = true then (some 0) else (some (-1))) else (if aG = true then (some 1) else (if a0 < a1 then (some (-1)) else (if a0 > a1 then (some 1) else (some 0))))))) = some r := h; clear h; replace H := Option.bind_eq_some_iff.mp H; obtain ⟨ee, g0, H⟩ := H; have A3 := zA g0; clear g0; replace H := Option.bind_eq_some_iff.mp H; obtain ⟨aG, io, H⟩ := H; have A4 := zA io; clear io; by_cases c5 : ee = true
 · subst c5; rw [if_pos rfl] at H; by_cases c6 : aG = true
   · subst c6; rw [if_pos rfl] at H; obtain rfl := Option.some.inj H; go_enter Try.func116, Try.ntmps116; go_wp2_with (first | ((with_reducible refine gate_callee (f := 126) rfl ?_); refine goesL_ (some 8) rfl rfl Try.func126 zz1j rfl #[.int .i64 a0] rfl zz0i ?_; (with_reducible refine (cmp_isNaN_int.calls a0 true _ A3.out).mono ?_); rintro e w' ⟨rfl, ⟨nd, rfl⟩⟩; refine ⟨_, rfl, ?_⟩) | ((with_reducible refine gate_callee (f := 126) rfl ?_); refine goesL_ (some 10) rfl rfl Try.func126 zz1j rfl #[.int .i64 a1] rfl zz0i ?_; (with_reducible refine (cmp_isNaN_int.calls a1 true _ A4.out).mono ?_); rintro e w' ⟨rfl, ⟨nd, rfl⟩⟩; refine ⟨_, rfl, ?_⟩)); go_ret; exact ⟨zz16, zz14⟩
   · replace c6 := Bool.eq_false_iff.mpr c6; subst c6; rw [if_neg zFt] at H; obtain rfl := Option.some.inj H; go_enter Try.func116, Try.ntmps116; go_wp2_with (first | ((with_reducible refine gate_callee (f := 126) rfl ?_); refine goesL_ (some 8) rfl rfl Try.func126 zz1j rfl #[.int .i64 a0] rfl zz0i ?_; (with_reducible refine (cmp_isNaN_int.calls a0 true _ A3.out).mono ?_); rintro e w' ⟨rfl, ⟨nd, rfl⟩⟩; refine ⟨_, rfl, ?_⟩) | ((with_reducible refine gate_callee (f := 126) rfl ?_); refine goesL_ (some 10) rfl rfl Try.func126 zz1j rfl #[.int .i64 a1] rfl zz0i ?_; (with_reducible refine (cmp_isNaN_int.calls a1 false _ A4.out).mono ?_); rintro e w' ⟨rfl, ⟨nd, rfl⟩⟩; refine ⟨_, rfl, ?_⟩)); go_ret; exact ⟨zz16, zz14⟩
 · replace c5 := Bool.eq_false_iff.mpr c5; subst c5; rw [if_neg zFt] at H; by_cases c7 : aG = true
   · subst c7; rw [if_pos rfl] at H; obtain rfl := Option.some.inj H; go_enter Try.func116, Try.ntmps116; go_wp2_with (first | ((with_reducible refine gate_callee (f := 126) rfl ?_); refine goesL_ (some 8) rfl rfl Try.func126 zz1j rfl #[.int .i64 a0] rfl zz0i ?_; (with_reducible refine (cmp_isNaN_int.calls a0 false _ A3.out).mono ?_); rintro e w' ⟨rfl, ⟨nd, rfl⟩⟩; refine ⟨_, rfl, ?_⟩) | ((with_reducible refine gate_callee (f := 126) rfl ?_); refine goesL_ (some 10) rfl rfl Try.func126 zz1j rfl #[.int .i64 a1] rfl zz0i ?_; (with_reducible refine (cmp_isNaN_int.calls a1 true _ A4.out).mono ?_); rintro e w' ⟨rfl, ⟨nd, rfl⟩⟩; refine ⟨_, rfl, ?_⟩)); go_ret; exact ⟨zz16, zz14⟩
   · replace c7 := Bool.eq_false_iff.mpr c7; subst c7; rw [if_neg zFt] at H; by_cases c8 : a0 < a1
     · rw [if_pos c8] at H; have dY := decide_eq_true c8; clear c8; obtain rfl := Option.some.inj H; go_enter Try.func116, Try.ntmps116; go_wp2_with (first | ((with_reducible refine gate_callee (f := 126) rfl ?_); refine goesL_ (some 8) rfl rfl Try.func126 zz1j rfl #[.int .i64 a0] rfl zz0i ?_; (with_reducible refine (cmp_isNaN_int.calls a0 false _ A3.out).mono ?_); rintro e w' ⟨rfl, ⟨nd, rfl⟩⟩; refine ⟨_, rfl, ?_⟩) | ((with_reducible refine gate_callee (f := 126) rfl ?_); refine goesL_ (some 10) rfl rfl Try.func126 zz1j rfl #[.int .i64 a1] rfl zz0i ?_; (with_reducible refine (cmp_isNaN_int.calls a1 false _ A4.out).mono ?_); rintro e w' ⟨rfl, ⟨nd, rfl⟩⟩; refine ⟨_, rfl, ?_⟩)); go_ret; exact ⟨zz16, zz14⟩
     · rw [if_neg c8] at H; have dY := decide_eq_false c8; clear c8; by_cases c9 : a0 > a1
       · rw [if_pos c9] at H; have eR : decide (a1 < a0) = true := decide_eq_true c9; clear c9; obtain rfl := Option.some.inj H; go_enter Try.func116, Try.ntmps116; go_wp2_with (first | ((with_reducible refine gate_callee (f := 126) rfl ?_); refine goesL_ (some 8) rfl rfl Try.func126 zz1j rfl #[.int .i64 a0] rfl zz0i ?_; (with_reducible refine (cmp_isNaN_int.calls a0 false _ A3.out).mono ?_); rintro e w' ⟨rfl, ⟨nd, rfl⟩⟩; refine ⟨_, rfl, ?_⟩) | ((with_reducible refine gate_callee (f := 126) rfl ?_); refine goesL_ (some 10) rfl rfl Try.func126 zz1j rfl #[.int .i64 a1] rfl zz0i ?_; (with_reducible refine (cmp_isNaN_int.calls a1 false _ A4.out).mono ?_); rintro e w' ⟨rfl, ⟨nd, rfl⟩⟩; refine ⟨_, rfl, ?_⟩)); go_ret; exact ⟨zz16, zz14⟩
       · rw [if_neg c9] at H; have eR : decide (a1 < a0) = false := decide_eq_false c9; clear c9; obtain rfl := Option.some.inj H; go_enter Try.func116, Try.ntmps116; go_wp2_with (first | ((with_reducible refine gate_callee (f := 126) rfl ?_); refine goesL_ (some 8) rfl rfl Try.func126 zz1j rfl #[.int .i64 a0] rfl zz0i ?_; (with_reducible refine (cmp_isNaN_int.calls a0 false _ A3.out).mono ?_); rintro e w' ⟨rfl, ⟨nd, rfl⟩⟩; refine ⟨_, rfl, ?_⟩) | ((with_reducible refine gate_callee (f := 126) rfl ?_); refine goesL_ (some 10) rfl rfl Try.func126 zz1j rfl #[.int .i64 a1] rfl zz0i ?_; (with_reducible refine (cmp_isNaN_int.calls a1 false _ A4.out).mono ?_); rintro e w' ⟨rfl, ⟨nd, rfl⟩⟩; refine ⟨_, rfl, ?_⟩)); go_ret; exact ⟨zz16, zz14⟩
def slices_Compare_int_int.l0 : Nat → List Int → List Int → List Int → Int → Int → Option (Int)
 | 0, _, _, _, _, _ => none
 | k + 1, x0, x1, x9, lU, eg => if eg < lU then (if 0 ≤ eg then (if eg < (x9.length : Int) then (if eg ≥ (x1.length : Int) then (some 1) else (if eg < (x1.length : Int) then ((cmp_Compare_int.f (rd x9 eg) (rd x1 eg)).bind fun bZ => (if bZ = 0 then (slices_Compare_int_int.l0 k x0 x1 x9 lU (wrap64 (eg + 1))) else (some bZ))) else (none))) else (none)) else (none)) else (if (x0.length : Int) < (x1.length : Int) then (some (-1)) else (some 0))
def slices_Compare_int_int.f (k : Nat) (l0 : List Int) (l1 : List Int) : Option (Int) := slices_Compare_int_int.l0 k l0 l1 l0 (l0.length : Int) 0
set_option maxHeartbeats 8000000 in
set_option maxRecDepth 100000 in
theorem slices_Compare_int_int.calls (k : Nat) (A0 : Option Addr) (c0 : Nat) (l0 : List Int) (A1 : Option Addr) (c1 : Nat) (l1 : List Int) (r : Int) (w : World) (dK : Kd.C (Kd.int .i64) w A0 l0.length l0) (dL : l0.length ≤ c0) (et : Kd.C (Kd.int .i64) w A1 l1.length l1) (eu : l1.length ≤ c1) (h : slices_Compare_int_int.f k l0 l1 = some r) :
 Calls Try.prog 94 #[.slice A0 l0.length c0, .slice A1 l1.length c1] w fun e w' => e = .returned (.int .i64 r) ∧ Drawn0 w w' := by
 have dx := zA dK; have iG := zA dL; clear dK dL; have eO := zA et; have hl := zA eu; clear et eu; have H : (slices_Compare_int_int.l0 k l0 l1 l0 (l0.length : Int) 0) = some r := h; clear h; have H' := zA H; clear H; go_enter Try.func94, Try.ntmps94; go_wp2; go_loopg [11] k (fun kq ki w' => ∃ (aC : Int), ki = .int .i64 aC ∧ Aside0 (slices_Compare_int_int.l0 kq l0 l1 l0 (l0.length : Int) aC = some r) ∧ Aside0 (kq ≤ k) ∧ Drawn0 w w')
 case atStart => exact ⟨(0), zz16, H', ⟨Nat.le_refl _⟩, zz14⟩
 case round =>
  clear H'; (try clear c1); (try clear p2); obtain ⟨aC, rfl, HA, bM, ⟨m1, rfl⟩⟩ := hrel; cases gk with
  | zero => exact absurd HA.out (by simp [slices_Compare_int_int.l0])
  | succ k1 =>
   have H := HA.out; clear HA; simp only [slices_Compare_int_int.l0] at H; by_cases c3 : aC < (l0.length : Int)
   · rw [if_pos c3] at H; have cS := decide_eq_true c3; clear c3; replace H := zIn H; obtain ⟨c4, H⟩ := H; have dp : decide (0 ≤ aC) = true := decide_eq_true c4; clear c4; replace H := zIn H; obtain ⟨c5, H⟩ := H; have e5 : decide (aC < (l0.length : Int)) = true := decide_eq_true c5; clear c5; by_cases c6 : aC ≥ (l1.length : Int)
     · rw [if_pos c6] at H; have dq : decide ((l1.length : Int) ≤ aC) = true := decide_eq_true c6; clear c6; obtain rfl := Option.some.inj H; have aU : 0 ≤ (aC : Int) := of_decide_eq_true zz1i; have aV : aC < (l0.length : Int) := of_decide_eq_true zz1i; obtain ⟨bi, bV, bc⟩ := Kd.at_int dx.out aC aU aV; cases bV; replace aU := eq_true aU; replace aV := eq_true aV; go_wp2; go_ret; exact ⟨zz16, zz14⟩
     · rw [if_neg c6] at H; have dq : decide ((l1.length : Int) ≤ aC) = false := decide_eq_false c6; clear c6; replace H := zIn H; obtain ⟨c7, H⟩ := H; have dy : decide (aC < (l1.length : Int)) = true := decide_eq_true c7; clear c7; replace H := Option.bind_eq_some_iff.mp H; obtain ⟨bZ, qz, H⟩ := H; have A8 := zA qz; clear qz; by_cases c9 : bZ = 0
       · rw [if_pos c9] at H; have eR : (bZ == 0) = true := beq_iff_eq.mpr c9; have qA : (bZ != 0) = false := bne_eq_false_iff_eq.mpr c9; clear c9; have H' := zA H; clear H; have aU : 0 ≤ (aC : Int) := of_decide_eq_true zz1i; have aV : aC < (l0.length : Int) := of_decide_eq_true zz1i; obtain ⟨bi, bV, bc⟩ := Kd.at_int dx.out aC aU aV; cases bV; replace aU := eq_true aU; replace aV := eq_true aV; have b0 : 0 ≤ (aC : Int) := of_decide_eq_true zz1i; have b1 : aC < (l1.length : Int) := of_decide_eq_true zz1i; obtain ⟨dz, dh, b5⟩ := Kd.at_int eO.out aC b0 b1; cases dh; replace b0 := eq_true b0; replace b1 := eq_true b1; go_wp2_with (first | ((with_reducible refine gate_callee (f := 116) rfl ?_); refine goesL_ (some 26) rfl rfl Try.func116 zz1j rfl #[.int .i64 (rd l0 aC), .int .i64 (rd l1 aC)] rfl zz0i ?_; (with_reducible refine (cmp_Compare_int.calls (rd l0 aC) (rd l1 aC) bZ _ A8.out).mono ?_); rintro e w' ⟨rfl, ⟨nd, rfl⟩⟩; refine ⟨_, rfl, ?_⟩))
         go_roundg k1
         case measure => have := bM.out; omega
         case rel => exact ⟨(wrap64 (aC + 1)), zz16, H', ⟨zz1e bM⟩, zz14⟩
       · rw [if_neg c9] at H; have eR : (bZ == 0) = false := beq_eq_false_iff_ne.mpr c9; have qA : (bZ != 0) = true := bne_iff_ne.mpr c9; obtain rfl := Option.some.inj H; have aU : 0 ≤ (aC : Int) := of_decide_eq_true zz1i; have aV : aC < (l0.length : Int) := of_decide_eq_true zz1i; obtain ⟨bi, bV, bc⟩ := Kd.at_int dx.out aC aU aV; cases bV; replace aU := eq_true aU; replace aV := eq_true aV; have b0 : 0 ≤ (aC : Int) := of_decide_eq_true zz1i; have b1 : aC < (l1.length : Int) := of_decide_eq_true zz1i; obtain ⟨dz, dh, b5⟩ := Kd.at_int eO.out aC b0 b1; cases dh; replace b0 := eq_true b0; replace b1 := eq_true b1; go_wp2_with (first | ((with_reducible refine gate_callee (f := 116) rfl ?_); refine goesL_ (some 26) rfl rfl Try.func116 zz1j rfl #[.int .i64 (rd l0 aC), .int .i64 (rd l1 aC)] rfl zz0i ?_; (with_reducible refine (cmp_Compare_int.calls (rd l0 aC) (rd l1 aC) bZ _ A8.out).mono ?_); rintro e w' ⟨rfl, ⟨nd, rfl⟩⟩; refine ⟨_, rfl, ?_⟩)); go_ret; exact ⟨zz16, zz14⟩
   · rw [if_neg c3] at H; have cS := decide_eq_false c3; clear c3; by_cases e8 : (l0.length : Int) < (l1.length : Int)
     · rw [if_pos e8] at H; have ge := decide_eq_true e8; have n4 : decide (l0.length < l1.length) = true := decide_eq_true (Int.ofNat_lt.mp e8); clear e8; obtain rfl := Option.some.inj H; go_wp2; go_ret; exact ⟨zz16, zz14⟩
     · rw [if_neg e8] at H; have ge := decide_eq_false e8; have n4 : decide (l0.length < l1.length) = false := decide_eq_false (fun h => e8 (Int.ofNat_lt.mpr h)); clear e8; obtain rfl := Option.some.inj H; go_wp2; go_ret; exact ⟨zz16, zz14⟩
def impl_areRising.l0 : Nat → List Int → Int → List Int → Int → Int → Option (Bool)
 | 0, _, _, _, _, _ => none
 | k + 1, x0, x1, x7, x8, x9 => if x9 < x8 then (if 0 ≤ x9 then (if x9 < (x7.length : Int) then ((impl_in.f (rd x7 x9) 0 (wrap64 (x1 - 1))).bind fun aG => (if aG = true then (if x9 > 0 then (if 0 ≤ (wrap64 (x9 - 1)) then (if (wrap64 (x9 - 1)) < (x0.length : Int) then (if (rd x0 (wrap64 (x9 - 1))) ≥ (rd x7 x9) then (some false) else (impl_areRising.l0 k x0 x1 x7 x8 (wrap64 (x9 + 1)))) else (none)) else (none)) else (impl_areRising.l0 k x0 x1 x7 x8 (wrap64 (x9 + 1)))) else (some false))) else (none)) else (none)) else (some true)
def impl_areRising.f (k : Nat) (l0 : List Int) (a1 : Int) : Option (Bool) := impl_areRising.l0 k l0 a1 l0 (l0.length : Int) 0
set_option maxHeartbeats 8000000 in
set_option maxRecDepth 100000 in
theorem impl_areRising.calls (k : Nat) (A0 : Option Addr) (c0 : Nat) (l0 : List Int) (a1 : Int) (r : Bool) (w : World) (dK : Kd.C (Kd.int .i64) w A0 l0.length l0) (dL : l0.length ≤ c0) (h : impl_areRising.f k l0 a1 = some r) :
 Calls Try.prog 61 #[.slice A0 l0.length c0, .int .i64 a1] w fun e w' => e = .returned (.bool r) ∧ Drawn0 w w' := by
 have dx := zA dK; have iG := zA dL; clear dK dL; have H : (impl_areRising.l0 k l0 a1 l0 (l0.length : Int) 0) = some r := h; clear h; have H' := zA H; clear H; go_enter Try.func61, Try.ntmps61; go_wp2; go_loopg [9] k (fun kq v9 w' => ∃ (b6 : Int), v9 = .int .i64 b6 ∧ Aside0 (impl_areRising.l0 kq l0 a1 l0 (l0.length : Int) b6 = some r) ∧ Aside0 (kq ≤ k) ∧ Drawn0 w w')
 case atStart => exact ⟨(0), zz16, H', ⟨Nat.le_refl _⟩, zz14⟩
 case round =>
  clear H'; (try clear p2); obtain ⟨b6, rfl, HA, bM, ⟨m1, rfl⟩⟩ := hrel; cases gk with
  | zero => exact absurd HA.out (by simp [impl_areRising.l0])
  | succ k1 =>
   have H := HA.out; clear HA; simp only [impl_areRising.l0] at H; by_cases c3 : b6 < (l0.length : Int)
   · rw [if_pos c3] at H; have cS := decide_eq_true c3; clear c3; replace H := zIn H; obtain ⟨c4, H⟩ := H; have dp : decide (0 ≤ b6) = true := decide_eq_true c4; clear c4; replace H := zIn H; obtain ⟨c5, H⟩ := H; have e5 : decide (b6 < (l0.length : Int)) = true := decide_eq_true c5; clear c5; replace H := Option.bind_eq_some_iff.mp H; obtain ⟨aG, kT, H⟩ := H; have A6 := zA kT; clear kT; by_cases c7 : aG = true
     · subst c7; rw [if_pos rfl] at H; by_cases c8 : b6 > 0
       · rw [if_pos c8] at H; have dY : decide (0 < b6) = true := decide_eq_true c8; clear c8; obtain ⟨ji9, hji9⟩ : ∃ j_ : Int, (wrap64 (b6 - 1)) = j_ := ⟨_, rfl⟩
         replace H : (if 0 ≤ (ji9) then (if (ji9) < (l0.length : Int) then (if (rd l0 (ji9)) ≥ (rd l0 b6) then (some false) else (impl_areRising.l0 k1 l0 a1 l0 (l0.length : Int) (wrap64 (b6 + 1)))) else (none)) else (none)) = some r := by first | (rw [hji9] at H; exact H) | (simp only [hji9] at H ⊢; exact H)
         (try rw [hji9] at A6); have hji9w : (IntKind.i64.wrap (b6 - 1)) = ji9 := (i64_w _).trans hji9; replace H := zIn H; obtain ⟨e8, H⟩ := H; have ge : decide (0 ≤ (ji9)) = true := decide_eq_true e8; clear e8; replace H := zIn H; obtain ⟨fG, H⟩ := H; have hD : decide ((ji9) < (l0.length : Int)) = true := decide_eq_true fG; clear fG; by_cases eS : (rd l0 (ji9)) ≥ (rd l0 b6)
         · rw [if_pos eS] at H; have g1 : decide ((rd l0 b6) ≤ (rd l0 (ji9))) = true := decide_eq_true eS; clear eS; obtain rfl := Option.some.inj H; have aU : 0 ≤ (b6 : Int) := of_decide_eq_true zz1i; have aV : b6 < (l0.length : Int) := of_decide_eq_true zz1i; obtain ⟨bi, bV, bc⟩ := Kd.at_int dx.out b6 aU aV; cases bV; replace aU := eq_true aU; replace aV := eq_true aV; go_wp2_with (first | ((with_reducible refine gate_callee (f := 85) rfl ?_); refine goesL_ (some 17) rfl rfl Try.func85 zz1j rfl #[.int .i64 (rd l0 b6), .int .i64 0, .int .i64 (wrap64 (a1 - 1))] rfl zz0i ?_; (with_reducible refine (impl_in.calls (rd l0 b6) 0 (wrap64 (a1 - 1)) true _ A6.out).mono ?_); rintro e w' ⟨rfl, ⟨nd, rfl⟩⟩; refine ⟨_, rfl, ?_⟩; have cm : 0 ≤ ((ji9) : Int) := of_decide_eq_true zz1i; have cn : (ji9) < (l0.length : Int) := of_decide_eq_true zz1i; obtain ⟨du, ew, bd⟩ := Kd.at_int dx.out (ji9) cm cn; obtain rfl : bi = du := (by injection ew); replace cm := eq_true cm; replace cn := eq_true cn)); go_ret; exact ⟨by first | rfl | (simp; done) | (simp only [← hji9] <;> (first | rfl | simp)) | (simp [*]; done), zz14⟩
         · rw [if_neg eS] at H; have g1 : decide ((rd l0 b6) ≤ (rd l0 (ji9))) = false := decide_eq_false eS; clear eS; have H' := zA H; clear H; have aU : 0 ≤ (b6 : Int) := of_decide_eq_true zz1i; have aV : b6 < (l0.length : Int) := of_decide_eq_true zz1i; obtain ⟨bi, bV, bc⟩ := Kd.at_int dx.out b6 aU aV; cases bV; replace aU := eq_true aU; replace aV := eq_true aV; go_wp2_with (first | ((with_reducible refine gate_callee (f := 85) rfl ?_); refine goesL_ (some 17) rfl rfl Try.func85 zz1j rfl #[.int .i64 (rd l0 b6), .int .i64 0, .int .i64 (wrap64 (a1 - 1))] rfl zz0i ?_; (with_reducible refine (impl_in.calls (rd l0 b6) 0 (wrap64 (a1 - 1)) true _ A6.out).mono ?_); rintro e w' ⟨rfl, ⟨nd, rfl⟩⟩; refine ⟨_, rfl, ?_⟩; have cm : 0 ≤ ((ji9) : Int) := of_decide_eq_true zz1i; have cn : (ji9) < (l0.length : Int) := of_decide_eq_true zz1i; obtain ⟨du, ew, bd⟩ := Kd.at_int dx.out (ji9) cm cn; obtain rfl : bi = du := (by injection ew); replace cm := eq_true cm; replace cn := eq_true cn))
           go_roundg k1
           case measure => have := bM.out; omega
           case rel => exact ⟨(wrap64 (b6 + 1)), zz16, H', ⟨zz1e bM⟩, zz14⟩
       · rw [if_neg c8] at H; have dY : decide (0 < b6) = false := decide_eq_false c8; clear c8; have H' := zA H; clear H; have aU : 0 ≤ (b6 : Int) := of_decide_eq_true zz1i; have aV : b6 < (l0.length : Int) := of_decide_eq_true zz1i; obtain ⟨bi, bV, bc⟩ := Kd.at_int dx.out b6 aU aV; cases bV; replace aU := eq_true aU; replace aV := eq_true aV; go_wp2_with (first | ((with_reducible refine gate_callee (f := 85) rfl ?_); refine goesL_ (some 17) rfl rfl Try.func85 zz1j rfl #[.int .i64 (rd l0 b6), .int .i64 0, .int .i64 (wrap64 (a1 - 1))] rfl zz0i ?_; (with_reducible refine (impl_in.calls (rd l0 b6) 0 (wrap64 (a1 - 1)) true _ A6.out).mono ?_); rintro e w' ⟨rfl, ⟨nd, rfl⟩⟩; refine ⟨_, rfl, ?_⟩))
         go_roundg k1
         case measure => have := bM.out; omega
         case rel => exact ⟨(wrap64 (b6 + 1)), zz16, H', ⟨zz1e bM⟩, zz14⟩
     · replace c7 := Bool.eq_false_iff.mpr c7; subst c7; rw [if_neg zFt] at H; obtain rfl := Option.some.inj H; have aU : 0 ≤ (b6 : Int) := of_decide_eq_true zz1i; have aV : b6 < (l0.length : Int) := of_decide_eq_true zz1i; obtain ⟨bi, bV, bc⟩ := Kd.at_int dx.out b6 aU aV; cases bV; replace aU := eq_true aU; replace aV := eq_true aV; go_wp2_with (first | ((with_reducible refine gate_callee (f := 85) rfl ?_); refine goesL_ (some 17) rfl rfl Try.func85 zz1j rfl #[.int .i64 (rd l0 b6), .int .i64 0, .int .i64 (wrap64 (a1 - 1))] rfl zz0i ?_; (with_reducible refine (impl_in.calls (rd l0 b6) 0 (wrap64 (a1 - 1)) false _ A6.out).mono ?_); rintro e w' ⟨rfl, ⟨nd, rfl⟩⟩; refine ⟨_, rfl, ?_⟩)); go_ret; exact ⟨zz16, zz14⟩
   · rw [if_neg c3] at H; have cS := decide_eq_false c3; clear c3; obtain rfl := Option.some.inj H; go_wp2; go_ret; exact ⟨zz16, zz14⟩
def spec_l1In.f (a0 : Int) (a1 : Int) (a2 : Int) : Option (Bool) := if a0 ≥ a1 then (some (decide (a0 ≤ a2))) else (some false)
set_option maxHeartbeats 8000000 in
set_option maxRecDepth 100000 in
theorem spec_l1In.calls (a0 : Int) (a1 : Int) (a2 : Int) (r : Bool) (w : World) (h : spec_l1In.f a0 a1 a2 = some r) :
 Calls Try.prog 81 #[.int .i64 a0, .int .i64 a1, .int .i64 a2] w fun e w' => e = .returned (.bool r) ∧ Drawn0 w w' := by
 have H : (if a0 ≥ a1 then (some (decide (a0 ≤ a2))) else (some false)) = some r := h; clear h; by_cases c4 : a0 ≥ a1
 · rw [if_pos c4] at H; have dp : decide (a1 ≤ a0) = true := decide_eq_true c4; clear c4; obtain rfl := Option.some.inj H; go_enter Try.func81, Try.ntmps81; go_wp2; go_ret; exact ⟨zz16, zz14⟩
 · rw [if_neg c4] at H; have dp : decide (a1 ≤ a0) = false := decide_eq_false c4; clear c4; obtain rfl := Option.some.inj H; go_enter Try.func81, Try.ntmps81; go_wp2; go_ret; exact ⟨zz16, zz14⟩
def spec_l1Rising.l0 : Nat → List Int → Int → Int → List Int → Int → Int → Option (Bool)
 | 0, _, _, _, _, _, _ => none
 | k + 1, x0, x1, x2, x9, lU, eg => if eg < lU then (if 0 ≤ eg then (if eg < (x9.length : Int) then ((spec_l1In.f (rd x9 eg) x1 x2).bind fun aG => (if aG = true then (if eg > 0 then (if 0 ≤ (wrap64 (eg - 1)) then (if (wrap64 (eg - 1)) < (x0.length : Int) then (if (rd x0 (wrap64 (eg - 1))) ≥ (rd x9 eg) then (some false) else (spec_l1Rising.l0 k x0 x1 x2 x9 lU (wrap64 (eg + 1)))) else (none)) else (none)) else (spec_l1Rising.l0 k x0 x1 x2 x9 lU (wrap64 (eg + 1)))) else (some false))) else (none)) else (none)) else (some true)
def spec_l1Rising.f (k : Nat) (l0 : List Int) (a1 : Int) (a2 : Int) : Option (Bool) := spec_l1Rising.l0 k l0 a1 a2 l0 (l0.length : Int) 0
set_option maxHeartbeats 8000000 in
set_option maxRecDepth 100000 in
theorem spec_l1Rising.calls (k : Nat) (A0 : Option Addr) (c0 : Nat) (l0 : List Int) (a1 : Int) (a2 : Int) (r : Bool) (w : World) (dK : Kd.C (Kd.int .i64) w A0 l0.length l0) (dL : l0.length ≤ c0) (h : spec_l1Rising.f k l0 a1 a2 = some r) :
 Calls Try.prog 59 #[.slice A0 l0.length c0, .int .i64 a1, .int .i64 a2] w fun e w' => e = .returned (.bool r) ∧ Drawn0 w w' := by
 have dx := zA dK; have iG := zA dL; clear dK dL; have H : (spec_l1Rising.l0 k l0 a1 a2 l0 (l0.length : Int) 0) = some r := h; clear h; have H' := zA H; clear H; go_enter Try.func59, Try.ntmps59; go_wp2; go_loopg [11] k (fun kq ki w' => ∃ (aC : Int), ki = .int .i64 aC ∧ Aside0 (spec_l1Rising.l0 kq l0 a1 a2 l0 (l0.length : Int) aC = some r) ∧ Aside0 (kq ≤ k) ∧ Drawn0 w w')
 case atStart => exact ⟨(0), zz16, H', ⟨Nat.le_refl _⟩, zz14⟩
 case round =>
  clear H'; (try clear p2); obtain ⟨aC, rfl, HA, bM, ⟨m1, rfl⟩⟩ := hrel; cases gk with
  | zero => exact absurd HA.out (by simp [spec_l1Rising.l0])
  | succ k1 =>
   have H := HA.out; clear HA; simp only [spec_l1Rising.l0] at H; by_cases c4 : aC < (l0.length : Int)
   · rw [if_pos c4] at H; have dp := decide_eq_true c4; clear c4; replace H := zIn H; obtain ⟨c5, H⟩ := H; have e5 : decide (0 ≤ aC) = true := decide_eq_true c5; clear c5; replace H := zIn H; obtain ⟨c6, H⟩ := H; have dq : decide (aC < (l0.length : Int)) = true := decide_eq_true c6; clear c6; replace H := Option.bind_eq_some_iff.mp H; obtain ⟨aG, kS, H⟩ := H; have A7 := zA kS; clear kS; by_cases c8 : aG = true
     · subst c8; rw [if_pos rfl] at H; by_cases c9 : aC > 0
       · rw [if_pos c9] at H; have eR : decide (0 < aC) = true := decide_eq_true c9; clear c9; obtain ⟨ji10, hji10⟩ : ∃ j_ : Int, (wrap64 (aC - 1)) = j_ := ⟨_, rfl⟩
         replace H : (if 0 ≤ (ji10) then (if (ji10) < (l0.length : Int) then (if (rd l0 (ji10)) ≥ (rd l0 aC) then (some false) else (spec_l1Rising.l0 k1 l0 a1 a2 l0 (l0.length : Int) (wrap64 (aC + 1)))) else (none)) else (none)) = some r := by first | (rw [hji10] at H; exact H) | (simp only [hji10] at H ⊢; exact H)
         (try rw [hji10] at A7); have hji10w : (IntKind.i64.wrap (aC - 1)) = ji10 := (i64_w _).trans hji10; replace H := zIn H; obtain ⟨fG, H⟩ := H; have hD : decide (0 ≤ (ji10)) = true := decide_eq_true fG; clear fG; replace H := zIn H; obtain ⟨eS, H⟩ := H; have g1 : decide ((ji10) < (l0.length : Int)) = true := decide_eq_true eS; clear eS; by_cases e9 : (rd l0 (ji10)) ≥ (rd l0 aC)
         · rw [if_pos e9] at H; have hE : decide ((rd l0 aC) ≤ (rd l0 (ji10))) = true := decide_eq_true e9; clear e9; obtain rfl := Option.some.inj H; have aU : 0 ≤ (aC : Int) := of_decide_eq_true zz1i; have aV : aC < (l0.length : Int) := of_decide_eq_true zz1i; obtain ⟨bi, bV, bc⟩ := Kd.at_int dx.out aC aU aV; cases bV; replace aU := eq_true aU; replace aV := eq_true aV; go_wp2_with (first | ((with_reducible refine gate_callee (f := 81) rfl ?_); refine goesL_ (some 19) rfl rfl Try.func81 zz1j rfl #[.int .i64 (rd l0 aC), .int .i64 a1, .int .i64 a2] rfl zz0i ?_; (with_reducible refine (spec_l1In.calls (rd l0 aC) a1 a2 true _ A7.out).mono ?_); rintro e w' ⟨rfl, ⟨nd, rfl⟩⟩; refine ⟨_, rfl, ?_⟩; have cm : 0 ≤ ((ji10) : Int) := of_decide_eq_true zz1i; have cn : (ji10) < (l0.length : Int) := of_decide_eq_true zz1i; obtain ⟨du, ew, bd⟩ := Kd.at_int dx.out (ji10) cm cn; obtain rfl : bi = du := (by injection ew); replace cm := eq_true cm; replace cn := eq_true cn)); go_ret; exact ⟨by first | rfl | (simp; done) | (simp only [← hji10] <;> (first | rfl | simp)) | (simp [*]; done), zz14⟩
         · rw [if_neg e9] at H; have hE : decide ((rd l0 aC) ≤ (rd l0 (ji10))) = false := decide_eq_false e9; clear e9; have H' := zA H; clear H; have aU : 0 ≤ (aC : Int) := of_decide_eq_true zz1i; have aV : aC < (l0.length : Int) := of_decide_eq_true zz1i; obtain ⟨bi, bV, bc⟩ := Kd.at_int dx.out aC aU aV; cases bV; replace aU := eq_true aU; replace aV := eq_true aV; go_wp2_with (first | ((with_reducible refine gate_callee (f := 81) rfl ?_); refine goesL_ (some 19) rfl rfl Try.func81 zz1j rfl #[.int .i64 (rd l0 aC), .int .i64 a1, .int .i64 a2] rfl zz0i ?_; (with_reducible refine (spec_l1In.calls (rd l0 aC) a1 a2 true _ A7.out).mono ?_); rintro e w' ⟨rfl, ⟨nd, rfl⟩⟩; refine ⟨_, rfl, ?_⟩; have cm : 0 ≤ ((ji10) : Int) := of_decide_eq_true zz1i; have cn : (ji10) < (l0.length : Int) := of_decide_eq_true zz1i; obtain ⟨du, ew, bd⟩ := Kd.at_int dx.out (ji10) cm cn; obtain rfl : bi = du := (by injection ew); replace cm := eq_true cm; replace cn := eq_true cn))
           go_roundg k1
           case measure => have := bM.out; omega
           case rel => exact ⟨(wrap64 (aC + 1)), zz16, H', ⟨zz1e bM⟩, zz14⟩
       · rw [if_neg c9] at H; have eR : decide (0 < aC) = false := decide_eq_false c9; clear c9; have H' := zA H; clear H; have aU : 0 ≤ (aC : Int) := of_decide_eq_true zz1i; have aV : aC < (l0.length : Int) := of_decide_eq_true zz1i; obtain ⟨bi, bV, bc⟩ := Kd.at_int dx.out aC aU aV; cases bV; replace aU := eq_true aU; replace aV := eq_true aV; go_wp2_with (first | ((with_reducible refine gate_callee (f := 81) rfl ?_); refine goesL_ (some 19) rfl rfl Try.func81 zz1j rfl #[.int .i64 (rd l0 aC), .int .i64 a1, .int .i64 a2] rfl zz0i ?_; (with_reducible refine (spec_l1In.calls (rd l0 aC) a1 a2 true _ A7.out).mono ?_); rintro e w' ⟨rfl, ⟨nd, rfl⟩⟩; refine ⟨_, rfl, ?_⟩))
         go_roundg k1
         case measure => have := bM.out; omega
         case rel => exact ⟨(wrap64 (aC + 1)), zz16, H', ⟨zz1e bM⟩, zz14⟩
     · replace c8 := Bool.eq_false_iff.mpr c8; subst c8; rw [if_neg zFt] at H; obtain rfl := Option.some.inj H; have aU : 0 ≤ (aC : Int) := of_decide_eq_true zz1i; have aV : aC < (l0.length : Int) := of_decide_eq_true zz1i; obtain ⟨bi, bV, bc⟩ := Kd.at_int dx.out aC aU aV; cases bV; replace aU := eq_true aU; replace aV := eq_true aV; go_wp2_with (first | ((with_reducible refine gate_callee (f := 81) rfl ?_); refine goesL_ (some 19) rfl rfl Try.func81 zz1j rfl #[.int .i64 (rd l0 aC), .int .i64 a1, .int .i64 a2] rfl zz0i ?_; (with_reducible refine (spec_l1In.calls (rd l0 aC) a1 a2 false _ A7.out).mono ?_); rintro e w' ⟨rfl, ⟨nd, rfl⟩⟩; refine ⟨_, rfl, ?_⟩)); go_ret; exact ⟨zz16, zz14⟩
   · rw [if_neg c4] at H; have dp := decide_eq_false c4; clear c4; obtain rfl := Option.some.inj H; go_wp2; go_ret; exact ⟨zz16, zz14⟩
end Go.Proofs.Ytkocahlifffgjaa.P
namespace Go.Proofs.Ytkocahlifffgjaa.P
open Go.RowKit Go.Proofs.YtkocahlifffgjaaW.PrintWords
set_option linter.unusedVariables false
set_option linter.unusedSimpArgs false
def cmpL : List Int → List Int → Int
 | [], [] => 0
 | [], _ :: _ => -1
 | _ :: _, [] => 1
 | a :: l, b :: m => if a < b then -1 else if b < a then 1 else cmpL l m
theorem cmpInt_eq (a b : Int) : cmp_Compare_int.f a b = some (if a < b then -1 else if b < a then 1 else 0) := by
 unfold cmp_Compare_int.f cmp_isNaN_int.f; simp only [Option.bind_some, bne_self_eq_false, Bool.false_eq_true, if_false]; by_cases h1 : a < b
 · simp [h1]
 · by_cases h2 : b < a
   · simp [h1, h2]
   · simp [h1, h2]
theorem compare_loop (a b : List Int) (hb : a.length ≤ 9223372036854775807) (d : Nat) : ∀ (k i : Nat), i ≤ a.length → i ≤ b.length → a.length - i = d → d < k →
 slices_Compare_int_int.l0 k a b a a.length i = some (cmpL (a.drop i) (b.drop i)) := by
 induction d with
 | zero =>
  intro k i h1 h2 hd hk; obtain ⟨k, rfl⟩ : ∃ m, k = m + 1 := ⟨k - 1, zz1n⟩
  simp only [slices_Compare_int_int.l0]; rw [if_neg zz1n, List.drop_of_length_le (show a.length ≤ i by omega)]; by_cases hl : a.length < b.length
  · rw [if_pos zz1n, getD_drop b i 0 zz1n]; rfl
  · rw [if_neg zz1n, List.drop_of_length_le (show b.length ≤ i by omega)]; rfl
 | succ d ih =>
  intro k i h1 h2 hd hk; obtain ⟨k, rfl⟩ : ∃ m, k = m + 1 := ⟨k - 1, zz1n⟩
  simp only [slices_Compare_int_int.l0]; rw [if_pos zz1n, if_pos zz1n, if_pos zz1n]; have ea : a.drop i = rd a i :: a.drop (i + 1) := getD_drop a i 0 zz1n; by_cases hl : i < b.length
  · have eb : b.drop i = rd b i :: b.drop (i + 1) := getD_drop b i 0 zz1n; rw [if_neg zz1n, if_pos zz1n, cmpInt_eq, ea, eb]; simp only [Option.bind_some, cmpL]; by_cases h3 : rd a i < rd b i
    · rw [if_pos h3, if_pos h3, if_neg zz1m]
    · by_cases h4 : rd b i < rd a i
      · rw [if_neg h3, if_pos h4, if_neg h3, if_pos h4, if_neg zz1m]
      · rw [if_neg h3, if_neg h4, if_neg h3, if_neg h4, if_pos rfl, show wrap64 ((i : Int) + 1) = ((i + 1 : Nat) : Int) by unfold wrap64; omega]; exact ih k (i + 1) zz1n zz1n zz1n zz1n
  · rw [if_pos zz1n, ea, List.drop_of_length_le (show b.length ≤ i by omega)]; rfl
theorem compare_eq (a b : List Int) (hb : a.length ≤ 9223372036854775807) (k : Nat) (hk : a.length < k) : slices_Compare_int_int.f k a b = some (cmpL a b) := by
 unfold slices_Compare_int_int.f; have := compare_loop a b hb a.length k 0 zz1n zz1n zz1n hk; simpa using this
def riseF (lo hi : Int) : Option Int → List Int → Bool
 | _, [] => true
 | p, x :: l => decide (lo ≤ x ∧ x ≤ hi) && ((match p with | none => true | some y => decide (y < x)) && riseF lo hi (some x) l)
def prevI (l : List Int) : Nat → Option Int
 | 0 => none
 | i + 1 => some (rd l i)
theorem areRising_loop (l : List Int) (n : Int) (hb : l.length ≤ 9223372036854775807) (d : Nat) : ∀ (k i : Nat), i ≤ l.length → l.length - i = d → d < k →
 impl_areRising.l0 k l n l l.length i = some (riseF 0 (wrap64 (n - 1)) (prevI l i) (l.drop i)) := by
 induction d with
 | zero =>
  intro k i h1 hd hk; obtain ⟨k, rfl⟩ : ∃ m, k = m + 1 := ⟨k - 1, zz1n⟩
  simp only [impl_areRising.l0]; rw [if_neg zz1n, List.drop_of_length_le (show l.length ≤ i by omega)]; cases i <;> rfl
 | succ d ih =>
  intro k i h1 hd hk; obtain ⟨k, rfl⟩ : ∃ m, k = m + 1 := ⟨k - 1, zz1n⟩
  have hi := ih k (i + 1) zz1n zz1n zz1n; simp only [impl_areRising.l0]; rw [if_pos zz1n, if_pos zz1n, if_pos zz1n, impl_in_eq, getD_drop l i 0 zz1n]; simp only [Option.bind_some]; have e0 : l.getD i 0 = rd l i := rfl; rw [e0]; have ew : wrap64 ((i : Int) + 1) = ((i + 1 : Nat) : Int) := by unfold wrap64; omega
  have er : ∀ p m, riseF 0 (wrap64 (n - 1)) p (rd l i :: m) = (decide (0 ≤ rd l i ∧ rd l i ≤ wrap64 (n - 1)) && ((match p with | none => true | some y => decide (y < rd l i)) && riseF 0 (wrap64 (n - 1)) (some (rd l i)) m)) := fun _ _ => rfl
  rw [er]; by_cases h : 0 ≤ rd l i ∧ rd l i ≤ wrap64 (n - 1)
  · rw [if_pos (decide_eq_true h), decide_eq_true h, Bool.true_and]; cases i with
    | zero => rw [if_neg zz1o, ew, hi]; rfl
    | succ i =>
     have e1 : wrap64 (((i + 1 : Nat) : Int) - 1) = (i : Int) := by unfold wrap64; omega
     rw [if_pos zz1n, e1, if_pos zz1n, if_pos zz1n]; show _ = some (decide (rd l i < rd l ((i + 1 : Nat) : Int)) && _); by_cases h2 : rd l i < rd l ((i + 1 : Nat) : Int)
     · rw [if_neg zz1n, ew, hi, decide_eq_true h2]; rfl
     · rw [if_pos zz1n, decide_eq_false h2]; rfl
  · rw [if_neg (by rw [decide_eq_false h]; exact Bool.false_ne_true), decide_eq_false h, Bool.false_and]
theorem areRising_eq (l : List Int) (n : Int) (hb : l.length ≤ 9223372036854775807) (k : Nat) (hk : l.length < k) : impl_areRising.f k l n = some (riseF 0 (wrap64 (n - 1)) none l) := by
 unfold impl_areRising.f; have := areRising_loop l n hb l.length k 0 zz1n zz1n hk; simpa [prevI] using this
def rowOk (nons toks many : Int) (x : List Int) : Bool := decide ((x.length : Int) = many) && (decide (0 ≤ rd x 0 ∧ rd x 0 ≤ wrap64 (nons - 1)) && !((x.drop 1).any fun y => !symB nons toks y))
def listsF (nons toks many : Int) : Option (List Int) → List (List Int) → Bool
 | _, [] => true
 | p, x :: l => rowOk nons toks many x && ((match p with | none => true | some y => decide (cmpL y x < 0)) && listsF nons toks many (some x) l)
def prevL (l : List (List Int)) : Nat → Option (List Int)
 | 0 => none
 | i + 1 => some (l.getD i [])
def goodB (nons toks : Int) (ps os : List (List Int)) (es : List Int) (fs : List (List Int)) : Bool :=
 decide (1 ≤ nons ∧ nons ≤ 40) && (decide (1 ≤ toks ∧ toks ≤ 4) && (riseF 0 (wrap64 (nons - 1)) none es && (decide ((fs.length : Int) ≤ nons) && (!(fs.any fun f => (f.length : Int) != 2) && (listsF nons toks 3 none ps && listsF nons toks 2 none os)))))
theorem eqIntSS_loop (l : List (List Int)) (hlen : l.length ≤ 1048576) (hs : ∀ i : Nat, i < l.length → (rd_L1 l i).length ≤ 1048576) (d : Nat) : ∀ (i : Nat), i ≤ l.length → l.length - i = d → Ev (fun k => laws_eqIntSS.l0 k l l i) true := by
 induction d with
 | zero =>
  intro i h1 hd; refine ⟨1, fun k hk => ?_⟩; dsimp only; obtain ⟨k, rfl⟩ : ∃ m, k = m + 1 := ⟨k - 1, zz1n⟩
  simp only [laws_eqIntSS.l0]; rw [if_neg zz1n]
 | succ d ih =>
  intro i h1 hd; obtain ⟨K, h⟩ := ih (i + 1) zz1n zz1n; dsimp only at h; have hb := hs i zz1n; refine ⟨K + (rd_L1 l i).length + 2, fun k hk => ?_⟩; dsimp only; obtain ⟨k, rfl⟩ : ∃ m, k = m + 1 := ⟨k - 1, zz1n⟩
  simp only [laws_eqIntSS.l0]; rw [if_pos zz1n, if_pos zz1n, if_pos zz1n, eqIntS_eq _ zz1n k zz1n]; simp only [Option.bind_some]; rw [if_pos trivial, show wrap64 ((i : Int) + 1) = ((i + 1 : Nat) : Int) by unfold wrap64; omega]; exact h k zz1n
theorem eqIntSS_ev (l : List (List Int)) (hlen : l.length ≤ 1048576) (hs : ∀ i : Nat, i < l.length → (rd_L1 l i).length ≤ 1048576) : Ev (fun k => laws_eqIntSS.f k l l) true := by
 obtain ⟨K, h⟩ := eqIntSS_loop l hlen hs l.length 0 zz1n zz1n; dsimp only at h; refine ⟨K, fun k hk => ?_⟩; dsimp only; unfold laws_eqIntSS.f; rw [if_pos rfl]; exact h k hk
theorem szIntS_eq (l : List Int) (a : Int) (ha : a ≤ 1048576) (h0 : 0 ≤ a) (hl : l.length ≤ 9223372036854775807) : laws_szIntS.f l a = some (if a - l.length < 0 then -1 else a - l.length) := by
 unfold laws_szIntS.f; rw [w64 zz1n zz1n]; by_cases h : a - (l.length : Int) < 0
 · rw [if_pos h, if_pos h]
 · rw [if_neg h, if_neg h]
end Go.Proofs.Ytkocahlifffgjaa.P
namespace Go.Proofs.Ytkocahlifffgjaa.P
open Go.RowKit Go.Proofs.YtkocahlifffgjaaW.PrintWords Go.Proofs.YtkocahlifffgjaaW.PrintLast Go.Proofs.YtkocahlifffgjaaW.PrintMore
attribute [local go_sem] max2_int min2_int max_two min_two max_three min_three max_four min_four
set_option linter.unusedVariables false
set_option linter.unusedSimpArgs false
def laws_toIntSS.l0 : Nat → List (List Int) → List (List Int) → Int → Option ((List (List Int)))
 | 0, _, _, _ => none
 | k + 1, x0, x3, x4 => if x4 < (x0.length : Int) then (if 0 ≤ x4 then ((laws_toIntS.f k (rd_L1 x0 x4)).bind fun dw => (if x4 < (x3.length : Int) then (laws_toIntSS.l0 k x0 (x3.set (x4 : Int).toNat dw) (wrap64 (x4 + 1))) else (none))) else (none)) else (some x3)
def laws_toIntSS.f (k : Nat) (l0 : List (List Int)) : Option ((List (List Int))) := if 0 ≤ (l0.length : Int) then (if ((l0.length : Int) : Int).toNat ≤ 11728124029610 then (laws_toIntSS.l0 k l0 (List.replicate ((l0.length : Int) : Int).toNat []) 0) else (none)) else (none)
set_option maxHeartbeats 8000000 in
set_option maxRecDepth 100000 in
theorem laws_toIntSS.calls (k : Nat) (A0 : Option Addr) (c0 : Nat) (l0 : List (List Int)) (r : List (List Int)) (w : World) (dK : Kd.C (Kd.slice 3 (Kd.int .i64)) w A0 l0.length l0) (dL : l0.length ≤ c0) (h : laws_toIntSS.f k l0 = some r) :
 Calls Try.prog 52 #[.slice A0 l0.length c0] w fun e w' => ∃ eQ : Value, e = .returned (eQ) ∧ Kd.S (Kd.slice 3 (Kd.int .i64)) 23 w' w.heap.size (fun _ => True) eQ r ∧ Below w.heap.size w w' := by
 have dx := zA dK; have iG := zA dL; clear dK dL; have HB := zA (Below.refl w.heap.size w); have H : (if 0 ≤ (l0.length : Int) then (if ((l0.length : Int) : Int).toNat ≤ 11728124029610 then (laws_toIntSS.l0 k l0 (List.replicate ((l0.length : Int) : Int).toNat []) 0) else (none)) else (none)) = some r := h; clear h; replace H := zIn H; obtain ⟨c2, H⟩ := H; have pg := eq_true c2; have ph : decide (0 ≤ (l0.length : Int)) = true := decide_eq_true c2; clear c2; replace H := zIn H; obtain ⟨c3, H⟩ := H; have cS := eq_true c3; have fx : decide (((l0.length : Int) : Int).toNat ≤ 11728124029610) = true := decide_eq_true c3; clear c3; obtain ⟨dP, e_y⟩ : ∃ y_ : List (List Int), y_ = (List.replicate ((l0.length : Int) : Int).toNat []) := ⟨_, rfl⟩
 replace H : (laws_toIntSS.l0 k l0 dP 0) = some r := zz07
 have fJ := zA e_y; clear e_y; have H' := zA H; clear H; go_enter Try.func52, Try.ntmps52; go_wp2_with (first | ((with_reducible refine gate_dst (N := 7) rfl ?_); refine Kd.S_make (Kd.slice 3 (Kd.int .i64)) _ 23 rfl (N := 7) rfl 22 _ _ rfl (l0.length : Int) rfl rfl Try.underlying22 (.slice none 0 0) 24 info23 rfl zz1m zz1n [] (ok := fun _ => True) (okp := fun _ => True) ⟨_, rfl, Kd.R_nil _ _ _ _ _⟩ (fun _ hk => hk) trivial (of_decide_eq_true zz1i) (Nat.le_trans (Nat.mul_le_mul_right _ (of_decide_eq_true zz1i : (l0.length : Int).toNat ≤ 11728124029610)) zz1n) (Below.refl _ _) (Nat.le_refl _) ?_; intro jx w4 jy hb hg_ hnew_; clear hg_ hnew_; (first | rw [← fJ.out] at jy | (simp only [Int.reduceToNat] at jy; rw [← fJ.out] at jy)); have fK := zA (Kd.S_lower jy (zF (zz0y HB))); replace HB := zA (zG (zz0y HB) hb); clear hb jy)); go_loopg [4] k (fun kq v4 w' => ∃ (ef : List (List Int)) (b4 : Int), v4 = .int .i64 b4 ∧ Aside0 (laws_toIntSS.l0 kq l0 ef b4 = some r) ∧ Aside0 (kq ≤ k) ∧ Aside0 (Kd.S (Kd.slice 3 (Kd.int .i64)) 23 w' w.heap.size (fun _ => True) jx ef) ∧ Aside0 (Below w.heap.size w w'))
 case atStart => exact ⟨(dP), (0), zz16, H', ⟨Nat.le_refl _⟩, ⟨zz0v fK⟩, ⟨zz0y HB⟩⟩
 case round =>
  clear H'; (try clear c2); (try clear pg); (try clear ph); (try clear p2); (try clear c3); (try clear cS); (try clear fx); (try clear c5); obtain ⟨ef, b4, rfl, HA, bM, az, HB⟩ := hrel; cases gk with
  | zero => exact absurd HA.out (by simp [laws_toIntSS.l0])
  | succ k1 =>
   have H := HA.out; clear HA; simp only [laws_toIntSS.l0] at H; by_cases c6 : b4 < (l0.length : Int)
   · rw [if_pos c6] at H; have dq := decide_eq_true c6; clear c6; replace H := zIn H; obtain ⟨c7, H⟩ := H; have dy : decide (0 ≤ b4) = true := decide_eq_true c7; clear c7; replace H := Option.bind_eq_some_iff.mp H; obtain ⟨dw, qz, H⟩ := H; have A8 := zA qz; clear qz; replace H := zIn H; obtain ⟨c9, H⟩ := H; have eR : decide (b4 < (ef.length : Int)) = true := decide_eq_true c9; clear c9; obtain ⟨dQ, e_y⟩ : ∃ y_ : List (List Int), y_ = (ef.set (b4 : Int).toNat dw) := ⟨_, rfl⟩
     replace H : (laws_toIntSS.l0 k1 l0 dQ (wrap64 (b4 + 1))) = some r := zz07
     have hF := zA e_y; clear e_y; have H' := zA H; clear H; have dr : 0 ≤ (b4 : Int) := of_decide_eq_true zz1i; have dt : b4 < (l0.length : Int) := of_decide_eq_true zz1i; obtain ⟨gZ, gN, gO, f9, bR, cy, cz⟩ := at_L1 dx.out b4 dr dt; cases f9; replace bR := (HB.out.cell (World.block_lt_of_cell? w _ bR)).trans bR; have dk := zA cz; have fQ := zA cy; clear cz cy; replace dr := eq_true dr; replace dt := eq_true dt; go_wp2_with (first | ((with_reducible refine gate_callee (f := 29) rfl ?_); refine goesL_ (some 20) rfl rfl Try.func29 zz1j rfl #[.slice gN (rd_L1 l0 b4).length gO] rfl zz0i ?_; (with_reducible refine (laws_toIntS.calls k1 _ _ (rd_L1 l0 b4) dw _ ?ak ?al A8.out).mono ?_); (case ak => exact (zz11 dk HB)); (case al => exact fQ.out); rintro e iv ⟨kj, rfl, b7, hb⟩; refine ⟨_, rfl, ?_⟩; replace az := zA (Kd.S_elder' (zz0v az) (Kd.R_base b7) hb); have dM := zA (Kd.R_lower b7 (zF (zz0y HB))); replace HB := zA (zG (zz0y HB) hb); (try clear hb); (try clear hb2); (try clear hk); (try clear hi); (try clear b7); obtain ⟨kU, kV, eo106⟩ := Kd.R_slice dM.out; subst eo106; have ju : 0 ≤ (b4 : Int) := of_decide_eq_true zz1i; have jv : (b4 : Int) < ((ef.length : Int) : Int) := of_decide_eq_true zz1i; obtain ⟨go10, kk, ly, qB, gl10, cl10, HG10⟩ := Kd.S_form az.out zz1n; (first | cases ly | (injection ly with ea_ en_ ec_; (first | subst ea_ | (injection ea_ with ea_; subst ea_)); subst ec_; clear en_)); have GB10 := zA qB; have GG10 := zA HG10; clear qB gl10 HG10; obtain ⟨_, ce10, hcl10, qC, n5, hfr10, _, _⟩ := Kd.S_elem az.out [] (b4 : Int) ju jv; obtain ⟨ve10_0, rfl, ge10_0⟩ := qC; have hx10_0 := n5 0 _ rfl; have hf10_0 := hfr10 0; (try simp only [show ((Kd.slice 3 (Kd.int .i64))).sz = 1 from rfl, Nat.mul_one, Nat.add_zero] at hx10_0); (try simp only [show ((Kd.slice 3 (Kd.int .i64))).sz = 1 from rfl, Nat.mul_one, Nat.add_zero] at hf10_0); clear hcl10 n5 hfr10; (try clear qC); replace ju := eq_true ju; replace jv := eq_true jv; have n_ := zA (Kd.S_mono (ok' := (fun k_ => some k_ ≠ ((.slice kU dw.length kV) : Value).ownBlock)) az.out (fun k_ hk => hk.2)); clear az; have az := n_; clear n_; have HX12 := zA (show Kd.S (Kd.slice 3 (Kd.int .i64)) 23 iv w.heap.size (fun k_ => ((fun _ => True)) k_ ∧ ¬ ((fun k_ => some k_ = ((.slice kU dw.length kV) : Value).ownBlock)) k_) (.slice (some ⟨go10, 0, none⟩) ef.length kk) ef from (by (with_reducible repeat (first | apply Kd.S_alloc | apply Kd.S_drewN | apply Kd.S_drew)); exact Kd.S_mono az.out (fun k_ hk => ⟨trivial, fun e_ => hk e_⟩))); obtain ⟨oki12, ce12, hcl12, qD, n6, hfr12, hoki12, hH12⟩ := Kd.S_elem HX12.out [] (b4 : Int) (of_decide_eq_true zz1i) (by have h_ : (b4 : Int) < ((ef.length : Int) : Int) := of_decide_eq_true zz1i; first | exact h_ | (have e_ := (Kd.S_reads' az.out).1; omega) | simpa using h_); obtain ⟨ve12_0, rfl, ge12_0⟩ := qD; have nr := Kd.S_seg hH12 (of_decide_eq_true zz1i) (by have h_ : (b4 : Int) < ((ef.length : Int) : Int) := of_decide_eq_true zz1i; first | exact h_ | (have e_ := (Kd.S_reads' az.out).1; omega) | simpa using h_) (seg := [(.slice kU dw.length kV)]) (j := 0) (show 1 ≤ 1 from by decide) (x' := dw) (Kd.M_row (Kd.R_mono (Kd.R_tight rfl (Kd.R_mono (ok' := fun k_ => ((fun _ => True)) k_ ∧ k_ ≠ go10) (Kd.R_apart' (dM.out) (Kd.S_typed az.out) zz1m) (fun k_ hk => ⟨trivial, fun e_ => (hk.2) zz1h⟩))) (fun _ h_ => Or.inr (h_)))) (fun _ hk => hk) (fun k_ hk_ => ((Kd.R_mono (ok' := fun k_ => ((fun _ => True)) k_ ∧ k_ ≠ go10) (Kd.R_apart' (dM.out) (Kd.S_typed az.out) zz1m) (fun k_ hk => ⟨trivial, fun e_ => (hk.2) zz1h⟩))).1 k_ hk_.symm); have hx12_0 := n6 0 _ rfl; (try simp only [show ((Kd.slice 3 (Kd.int .i64))).sz = 1 from rfl, Nat.mul_one, Nat.add_zero] at hx12_0); have hf12_0 := hfr12 0; (try simp only [show ((Kd.slice 3 (Kd.int .i64))).sz = 1 from rfl, Nat.mul_one, Nat.add_zero] at hf12_0); clear hcl12 n6 hfr12 hoki12 hH12; (try clear qD); (try simp only [show ((Kd.slice 3 (Kd.int .i64))).sz = 1 from rfl, Nat.mul_one, Nat.add_zero] at nr)) | ((with_reducible refine gate_store (t := 23) (p := 21) rfl ?_); refine store_event (t := 23) (p := 21) (v := ?vo_w13) (w1 := (iv.setCell ⟨go10, (b4 : Int).toNat, none⟩ ((.slice kU dw.length kV)))) ?hg ?ho ?hn ?hr ?_; (case ho => rfl); (case hg => rfl); (case hn => rfl); (case hr => first | (go_simp; done) | (go_simp; rfl)); intro lV hw; have hg : iv.grownBy lV (some go10) := (by rw [hw]; exact nr.2); have hp_ : Kd.S (Kd.slice 3 (Kd.int .i64)) 23 lV w.heap.size (fun _ => True) (.slice (some ⟨go10, 0, none⟩) ef.length kk) dQ := (by rw [hw, hF.out]; exact nr.1); clear nr; replace az := zA (hp_); replace HB := zA ((by rw [hw]; exact zE (HB.out) GB10.out : Below w.heap.size w lV)); clear dM; clear hg hw hp_))
     go_roundg k1
     case measure => have := bM.out; omega
     case rel => exact ⟨(dQ), (wrap64 (b4 + 1)), zz16, H', ⟨zz1e bM⟩, ⟨zz0v az⟩, ⟨zz0y HB⟩⟩
   · rw [if_neg c6] at H; have dq := decide_eq_false c6; clear c6; obtain rfl := Option.some.inj H; go_wp2; go_ret; exact ⟨_, zz0z, zz0v az, zz0y HB⟩
end Go.Proofs.Ytkocahlifffgjaa.P
namespace Go.Proofs.Ytkocahlifffgjaa.P
open Go.RowKit Go.Proofs.YtkocahlifffgjaaW.PrintWords
set_option linter.unusedVariables false
set_option linter.unusedSimpArgs false
def smallL (l : List (List Int)) : Prop := l.length ≤ 1048576 ∧ ∀ i : Nat, i < l.length → (rd_L1 l i).length ≤ 1048576
theorem szIntSS_loop (l : List (List Int)) (hl : l.length ≤ 9223372036854775807) (hr : ∀ i : Nat, i < l.length → (rd_L1 l i).length ≤ 9223372036854775807) (d : Nat) : ∀ (i : Nat) (a : Int), 0 ≤ a → a ≤ 1048576 → i ≤ l.length → l.length - i = d →
 ∃ t, Ev (fun k => laws_szIntSS.l0 k l a i) t ∧ t ≤ 1048576 ∧ (0 ≤ t → ∀ j : Nat, i ≤ j → j < l.length → (rd_L1 l j).length ≤ 1048576) := by
 induction d with
 | zero =>
  intro i a h0 h1 h2 hd; refine ⟨a, ⟨1, fun k hk => ?_⟩, h1, fun _ j h3 h4 => by omega⟩; dsimp only; obtain ⟨k, rfl⟩ : ∃ m, k = m + 1 := ⟨k - 1, zz1n⟩
  simp only [laws_szIntSS.l0]; rw [if_neg zz1n]
 | succ d ih =>
  intro i a h0 h1 h2 hd; have hi : i < l.length := by omega
  have hz := szIntS_eq (rd_L1 l i) a h1 h0 (hr i hi); by_cases hs : a - ((rd_L1 l i).length : Int) < 0
  · rw [if_pos hs] at hz; refine ⟨-1, ⟨1, fun k hk => ?_⟩, zz1n, fun h => by omega⟩; dsimp only; obtain ⟨k, rfl⟩ : ∃ m, k = m + 1 := ⟨k - 1, zz1n⟩
    simp only [laws_szIntSS.l0]; rw [if_pos zz1n, if_pos zz1n, hz]; rfl
  · rw [if_neg hs] at hz; obtain ⟨t, ⟨K, ht⟩, hle, hsm⟩ := ih (i + 1) (a - (rd_L1 l i).length) zz1n zz1n zz1n zz1n; dsimp only at ht; refine ⟨t, ⟨K + 1, fun k hk => ?_⟩, hle, fun h j h3 h4 => ?_⟩
    · dsimp only; obtain ⟨k, rfl⟩ : ∃ m, k = m + 1 := ⟨k - 1, zz1n⟩
      simp only [laws_szIntSS.l0]; rw [if_pos zz1n, if_pos zz1n, hz]; simp only [Option.bind_some]; rw [if_neg hs, w64 zz1n zz1n]; exact ht k zz1n
    · by_cases e : j = i
      · subst e; omega
      · exact hsm h j zz1n h4
theorem szIntSS_fr (l : List (List Int)) (hl : l.length ≤ 9223372036854775807) (hr : ∀ i : Nat, i < l.length → (rd_L1 l i).length ≤ 9223372036854775807) (a : Int) (ha : 0 ≤ a) (ha2 : a ≤ 1048576) :
 ∃ t, Ev (fun k => laws_szIntSS.f k l a) t ∧ t ≤ 1048576 ∧ (0 ≤ t → smallL l) := by
 by_cases hs : a - l.length < 0
 · refine ⟨-1, ⟨0, fun k hk => ?_⟩, zz1n, fun h => by omega⟩; dsimp only; unfold laws_szIntSS.f; rw [w64 zz1n zz1n, if_pos hs]
 · obtain ⟨t, ⟨K, ht⟩, hle, hsm⟩ := szIntSS_loop l hl hr l.length 0 (a - l.length) zz1n zz1n zz1n zz1n; dsimp only at ht; refine ⟨t, ⟨K, fun k hk => ?_⟩, hle, fun h => ⟨zz1n, fun j hj => hsm h j zz1n hj⟩⟩; dsimp only; unfold laws_szIntSS.f; rw [w64 zz1n zz1n, if_neg hs]; exact ht k hk
def fitL (l : List (List Int)) : Prop := l.length ≤ 9223372036854775807 ∧ ∀ i : Nat, i < l.length → (rd_L1 l i).length ≤ 9223372036854775807
theorem reads_fitL {w : World} {A : Option Addr} {l : List (List Int)} (h : Kd.C (Kd.slice 3 (Kd.int .i64)) w A l.length l) : fitL l := by
 refine ⟨h.2.1, fun i hi => ?_⟩; obtain ⟨ad, A1, c1, _, _, _, hC⟩ := at_L1 h (i : Int) zz1n zz1n; exact hC.2.1
theorem toIntSS_loop (l : List (List Int)) (hs : smallL l) (d : Nat) : ∀ (i : Nat), i ≤ l.length → l.length - i = d → Ev (fun k => laws_toIntSS.l0 k l (l.take i ++ List.replicate d []) i) l := by
 induction d with
 | zero =>
  intro i h1 hd; refine ⟨1, fun k hk => ?_⟩; dsimp only; obtain ⟨k, rfl⟩ : ∃ m, k = m + 1 := ⟨k - 1, zz1n⟩
  simp only [laws_toIntSS.l0]; rw [if_neg zz1n]; rw [List.take_of_length_le zz1n]; simp
 | succ d ih =>
  intro i h1 hd; have hb := hs.1; obtain ⟨K1, ht⟩ := toIntS_ev _ (hs.2 i zz1n); dsimp only at ht; obtain ⟨K2, hi⟩ := ih (i + 1) zz1n zz1n; dsimp only at hi; refine ⟨K1 + K2 + 1, fun k hk => ?_⟩; dsimp only; obtain ⟨k, rfl⟩ : ∃ m, k = m + 1 := ⟨k - 1, zz1n⟩
  simp only [laws_toIntSS.l0]; rw [if_pos zz1n, if_pos zz1n, ht k zz1n]; simp only [Option.bind_some]; rw [if_pos (by simp; omega)]; have e1 : wrap64 ((i : Int) + 1) = ((i + 1 : Nat) : Int) := by unfold wrap64; omega
  have e2 : (l.take i ++ List.replicate (d + 1) []).set (i : Int).toNat (rd_L1 l i) = l.take (i + 1) ++ List.replicate d [] := by
   rw [rep_succ, Int.toNat_natCast, set_mid _ _ _ _ _ zz1c, take_getD l i [] zz1n]; simp [rd_L1]
  rw [e1, e2]; exact hi k zz1n
theorem toIntSS_ev (l : List (List Int)) (hs : smallL l) : Ev (fun k => laws_toIntSS.f k l) l := by
 obtain ⟨K, h⟩ := toIntSS_loop l hs l.length 0 zz1n zz1n; dsimp only at h; have hb := hs.1; refine ⟨K, fun k hk => ?_⟩; dsimp only; unfold laws_toIntSS.f; rw [if_pos zz1n, if_pos zz1n, Int.toNat_natCast]; have := h k hk; rw [List.take_zero, List.nil_append] at this; exact this
end Go.Proofs.Ytkocahlifffgjaa.P
namespace Go.Proofs.Ytkocahlifffgjaa.P
open Go.RowKit Go.Proofs.YtkocahlifffgjaaW.PrintWords Go.Proofs.YtkocahlifffgjaaW.PrintLast Go.Proofs.YtkocahlifffgjaaW.PrintMore
attribute [local go_sem] max2_int min2_int max_two min_two max_three min_three max_four min_four
set_option linter.unusedVariables false
set_option linter.unusedSimpArgs false
def laws_toBinary.f (k : Nat) (ah : Int) (ai : Int) (ab : List (List Int)) (ae : List (List Int)) (ag : List Int) (af : List (List Int)) : Option (Int × Int × (List (List Int)) × (List (List Int)) × List Int × (List (List Int))) := (laws_toIntSS.f k ab).bind fun aY => ((laws_toIntSS.f k ae).bind fun b8 => ((laws_toIntS.f k ag).bind fun bU => ((laws_toIntSS.f k af).bind fun dZ => (some (ah, ai, aY, b8, bU, dZ)))))
set_option maxHeartbeats 8000000 in
set_option maxRecDepth 100000 in
theorem laws_toBinary.apart (k : Nat) (ah : Int) (ai : Int) (ay : Option Addr) (ap : Nat) (ab : List (List Int)) (ax : Option Addr) (au : Nat) (ae : List (List Int)) (aq : Option Addr) (ar : Nat) (ag : List Int) (av : Option Addr) (aw : Nat) (af : List (List Int)) (r1 : Int) (r2 : Int) (r3 : List (List Int)) (r4 : List (List Int)) (r5 : List Int) (r6 : List (List Int)) (w : World) (bw : Kd.C (Kd.slice 3 (Kd.int .i64)) w ay ab.length ab) (bx : ab.length ≤ ap) (bz : Kd.C (Kd.slice 3 (Kd.int .i64)) w ax ae.length ae) (bA : ae.length ≤ au) (bB : Kd.C (Kd.int .i64) w aq ag.length ag) (bC : ag.length ≤ ar) (bD : Kd.C (Kd.slice 3 (Kd.int .i64)) w av af.length af) (bE : af.length ≤ aw) (h : laws_toBinary.f k ah ai ab ae ag af = some (r1, r2, r3, r4, r5, r6)) :
 Calls Try.prog 14 #[.agg #[.int .i64 ah, .int .i64 ai, .slice ay ab.length ap, .slice ax ae.length au, .slice aq ag.length ar, .slice av af.length aw]] w fun e w' => ∃ (pj pk n7 pl : Value) (m0 m1 m2 m3 m4 : Nat), e = .returned (.agg #[.int .i64 r1, .int .i64 r2, pj, pk, n7, pl]) ∧ (w.heap.size ≤ m0 ∧ m0 ≤ m1 ∧ m1 ≤ m2 ∧ m2 ≤ m3 ∧ m3 ≤ m4 ∧ m4 ≤ w'.heap.size) ∧ Kd.S (Kd.slice 3 (Kd.int .i64)) 23 w' w.heap.size (fun q_ => m0 ≤ q_ ∧ q_ < m1) pj r3 ∧ Kd.S (Kd.slice 3 (Kd.int .i64)) 23 w' w.heap.size (fun q_ => m1 ≤ q_ ∧ q_ < m2) pk r4 ∧ Kd.R (Kd.int .i64) 3 w' w.heap.size (fun q_ => m2 ≤ q_ ∧ q_ < m3) n7 r5 ∧ Kd.S (Kd.slice 3 (Kd.int .i64)) 23 w' w.heap.size (fun q_ => m3 ≤ q_ ∧ q_ < m4) pl r6 ∧ Below w.heap.size w w' := by
 have hu25 := Try.underlying25; have hu29 := Try.underlying29; have bm := zA bw; have bF := zA bx; clear bw bx; have bq := zA bz; have bG := zA bA; clear bz bA; have bH := zA bB; have bI := zA bC; clear bB bC; have bJ := zA bD; have bN := zA bE; clear bD bE; have HB := zA (Below.refl w.heap.size w); have H : ((laws_toIntSS.f k ab).bind fun aY => ((laws_toIntSS.f k ae).bind fun b8 => ((laws_toIntS.f k ag).bind fun bU => ((laws_toIntSS.f k af).bind fun dZ => (some (ah, ai, aY, b8, bU, dZ)))))) = some (r1, r2, r3, r4, r5, r6) := h; clear h; replace H := Option.bind_eq_some_iff.mp H; obtain ⟨aY, l4, H⟩ := H; replace H : ((laws_toIntSS.f k ae).bind fun b8 => ((laws_toIntS.f k ag).bind fun bU => ((laws_toIntSS.f k af).bind fun dZ => (some (ah, ai, aY, b8, bU, dZ))))) = some (r1, r2, r3, r4, r5, r6) := H; have A2 := zA l4; clear l4; replace H := Option.bind_eq_some_iff.mp H; obtain ⟨b8, g0, H⟩ := H; replace H : ((laws_toIntS.f k ag).bind fun bU => ((laws_toIntSS.f k af).bind fun dZ => (some (ah, ai, aY, b8, bU, dZ)))) = some (r1, r2, r3, r4, r5, r6) := H; have A3 := zA g0; clear g0; replace H := Option.bind_eq_some_iff.mp H; obtain ⟨bU, io, H⟩ := H; replace H : ((laws_toIntSS.f k af).bind fun dZ => (some (ah, ai, aY, b8, bU, dZ))) = some (r1, r2, r3, r4, r5, r6) := H; have A4 := zA io; clear io; replace H := Option.bind_eq_some_iff.mp H; obtain ⟨dZ, kW, H⟩ := H; replace H : (some (ah, ai, aY, b8, bU, dZ)) = some (r1, r2, r3, r4, r5, r6) := H; have A5 := zA kW; clear kW; simp only [Option.some.injEq, Prod.mk.injEq] at H; obtain ⟨rfl, rfl, rfl, rfl, rfl, rfl⟩ := H; go_enter Try.func14, Try.ntmps14; go_wp2_with (first | ((with_reducible refine gate_dst (N := 1) rfl ?_); refine box_event ?hg (N := 1) ?hd (cs := #[.int .i64 ah, .int .i64 ai, .slice ay ab.length ap, .slice ax ae.length au, .slice aq ag.length ar, .slice av af.length aw]) (t := 25) ?hr ?_; (case hd => rfl); (case hg => rfl); (case hr => first | (go_simp; done) | (go_simp; rfl)); intro ad hg w6 hbox hb; have g2 := zA (zG (zz0y HB) hb); have g3 := zA (hbox); have g4 := zA ((by rw [hg]; exact (zF (zz0y HB)) : w.heap.size ≤ ad)); have g5 := zA ((by rw [hg]; exact (zF (zz0y HB)) : w.heap.size ≤ ad)); clear HB; have HB := g2; have aa := g3; have ce := g4; have ac := g5; clear g2 g3 g4 g5; clear hb hbox hg) | ((with_reducible refine gate_dst (N := 2) rfl ?_); refine box_event ?hg (N := 2) ?hd (cs := #[.int .i64 0, .int .i64 0, .slice none 0 0, .slice none 0 0, .slice none 0 0, .slice none 0 0]) (t := 29) ?hr ?_; (case hd => rfl); (case hg => rfl); (case hr => first | (go_simp; done) | (go_simp; rfl)); intro an hg w7 hbox hb; have g2 := zA (zM (g := ad) (o := .cells #[.int .i64 ah, .int .i64 ai, .slice ay ab.length ap, .slice ax ae.length au, .slice aq ag.length ar, .slice av af.length aw] 25 (0, 0)) (zz10 aa) hb); have g3 := zA (zG (zz0p HB ac) hb); have g4 := zA (hbox); have g5 := zA ((by rw [hg]; exact (zF (zz0p HB ac)) : w.heap.size ≤ an)); have jz := zA ((by rw [hg]; exact (zF (zz0p HB ac)) : w.heap.size ≤ an)); have kX := zA ((by rw [hg]; exact Nat.ne_of_lt (blk_lt (g := ad) (o := .cells #[.int .i64 ah, .int .i64 ai, .slice ay ab.length ap, .slice ax ae.length au, .slice aq ag.length ar, .slice av af.length aw] 25 (0, 0)) (zz10 aa)) : ad ≠ an)); have l5 := zA ((by rw [hg]; exact Nat.ne_of_gt (blk_lt (g := ad) (o := .cells #[.int .i64 ah, .int .i64 ai, .slice ay ab.length ap, .slice ax ae.length au, .slice aq ag.length ar, .slice av af.length aw] 25 (0, 0)) (zz10 aa)) : an ≠ ad)); clear aa; clear HB; have aa := g2; have HB := g3; have aj := g4; have ex := g5; have aA := jz; have bn := kX; have bo := l5; clear g2 g3 g4 g5 jz kX l5; clear hb hbox hg) | ((with_reducible refine gate_dst (N := 3) rfl ?_); refine box_event ?hg (N := 3) ?hd (cs := #[.int .i64 0, .int .i64 0, .slice none 0 0, .slice none 0 0, .slice none 0 0, .slice none 0 0]) (t := 29) ?hr ?_; (case hd => rfl); (case hg => rfl); (case hr => first | (go_simp; done) | (go_simp; rfl)); intro br hg w8 hbox hb; have g2 := zA (zM (g := ad) (o := .cells #[.int .i64 ah, .int .i64 ai, .slice ay ab.length ap, .slice ax ae.length au, .slice aq ag.length ar, .slice av af.length aw] 25 (0, 0)) (zz10 aa) hb); have g3 := zA (zM (g := an) (o := .cells #[.int .i64 0, .int .i64 0, .slice none 0 0, .slice none 0 0, .slice none 0 0, .slice none 0 0] 29 (0, 0)) (zz10 aj) hb); have g4 := zA (zG (zz0j HB ac aA) hb); have g5 := zA (hbox); have jz := zA ((by rw [hg]; exact (zF (zz0j HB ac aA)) : w.heap.size ≤ br)); have kX := zA ((by rw [hg]; exact (zF (zz0j HB ac aA)) : w.heap.size ≤ br)); have l5 := zA ((by rw [hg]; exact Nat.ne_of_lt (blk_lt (g := ad) (o := .cells #[.int .i64 ah, .int .i64 ai, .slice ay ab.length ap, .slice ax ae.length au, .slice aq ag.length ar, .slice av af.length aw] 25 (0, 0)) (zz10 aa)) : ad ≠ br)); have qE := zA ((by rw [hg]; exact Nat.ne_of_gt (blk_lt (g := ad) (o := .cells #[.int .i64 ah, .int .i64 ai, .slice ay ab.length ap, .slice ax ae.length au, .slice aq ag.length ar, .slice av af.length aw] 25 (0, 0)) (zz10 aa)) : br ≠ ad)); have sf := zA ((by rw [hg]; exact Nat.ne_of_lt (blk_lt (g := an) (o := .cells #[.int .i64 0, .int .i64 0, .slice none 0 0, .slice none 0 0, .slice none 0 0, .slice none 0 0] 29 (0, 0)) (zz10 aj)) : an ≠ br)); have sg := zA ((by rw [hg]; exact Nat.ne_of_gt (blk_lt (g := an) (o := .cells #[.int .i64 0, .int .i64 0, .slice none 0 0, .slice none 0 0, .slice none 0 0, .slice none 0 0] 29 (0, 0)) (zz10 aj)) : br ≠ an)); clear aa; clear aj; clear HB; have aa := g2; have aj := g3; have HB := g4; have aW := g5; have GW103 := jz; have eT := kX; have eq := l5; have NB103_101 := qE; have dR := sf; have NB103_102 := sg; clear g2 g3 g4 g5 jz kX l5 qE sf sg; clear hb hbox hg; have hnb9 := bn.out; have hnc9 := bo.out; have hnb10 := eq.out; have hnc10 := NB103_101.out; have hcz11_0 : w8.cell? ⟨ad, 0, none⟩ = some (.int .i64 ah) := (zK aa.out 0).trans rfl; have hcz11_1 : w8.cell? ⟨ad, 1, none⟩ = some (.int .i64 ai) := (zK aa.out 1).trans rfl; have hcz11_2 : w8.cell? ⟨ad, 2, none⟩ = some (.slice ay ab.length ap) := (zK aa.out 2).trans rfl; have hcz11_3 : w8.cell? ⟨ad, 3, none⟩ = some (.slice ax ae.length au) := (zK aa.out 3).trans rfl; have hcz11_4 : w8.cell? ⟨ad, 4, none⟩ = some (.slice aq ag.length ar) := (zK aa.out 4).trans rfl; have hcz11_5 : w8.cell? ⟨ad, 5, none⟩ = some (.slice av af.length aw) := (zK aa.out 5).trans rfl; have hnb12 := NB103_102.out; have hnc12 := dR.out; have hcz13_0 : w8.cell? ⟨br, 0, none⟩ = some (.int .i64 0) := (zK aW.out 0).trans rfl; have hcz13_1 : w8.cell? ⟨br, 1, none⟩ = some (.int .i64 0) := (zK aW.out 1).trans rfl; have hcz13_2 : w8.cell? ⟨br, 2, none⟩ = some (.slice none 0 0) := (zK aW.out 2).trans rfl; have hcz13_3 : w8.cell? ⟨br, 3, none⟩ = some (.slice none 0 0) := (zK aW.out 3).trans rfl; have hcz13_4 : w8.cell? ⟨br, 4, none⟩ = some (.slice none 0 0) := (zK aW.out 4).trans rfl; have hcz13_5 : w8.cell? ⟨br, 5, none⟩ = some (.slice none 0 0) := (zK aW.out 5).trans rfl; have hfz13_0 := zL aW.out 0; have hfz13_1 := zL aW.out 1; have hfz13_2 := zL aW.out 2; have hfz13_3 := zL aW.out 3; have hfz13_4 := zL aW.out 4; have hfz13_5 := zL aW.out 5) | ((with_reducible refine gate_callee (f := 52) rfl ?_); refine goesL_ (some 12) rfl rfl Try.func52 zz1j rfl #[.slice ay ab.length ap] rfl zz0i ?_; (with_reducible refine (laws_toIntSS.calls k _ _ ab aY _ ?ak ?al A2.out).mono ?_); (case ak => exact zS bm.out (zz0g HB ac aA eT)); (case al => exact bF.out); rintro e hz ⟨lz, rfl, b7, hb⟩; refine ⟨_, rfl, ?_⟩;have Z0_ := zA (show w.heap.size ≤ w8.heap.size from zF HB.out);  have hsz_ := hb.size; (try simp at hsz_); have Z1_ := zA (show w8.heap.size ≤ hz.heap.size by omega); clear hsz_; replace b7 := Kd.S_mono (ok' := fun q_ => w8.heap.size ≤ q_ ∧ q_ < hz.heap.size) (Kd.S_bound b7) (fun q_ h_ => ⟨zz17, h_.2.2.1⟩); have g2 := zA (Kd.S_lower b7 (zF (zz0g HB ac aA eT))); have g3 := zA (zM (g := ad) (o := .cells #[.int .i64 ah, .int .i64 ai, .slice ay ab.length ap, .slice ax ae.length au, .slice aq ag.length ar, .slice av af.length aw] 25 (0, 0)) (zz06 eq aa) hb); have g4 := zA (zM (g := an) (o := .cells #[.int .i64 0, .int .i64 0, .slice none 0 0, .slice none 0 0, .slice none 0 0, .slice none 0 0] 29 (0, 0)) (zz06 dR aj) hb); have g5 := zA (zM (g := br) (o := .cells #[.int .i64 ah, .int .i64 ai, .slice none 0 0, .slice none 0 0, .slice none 0 0, .slice none 0 0] 29 (0, 0)) (by (with_reducible repeat (first | refine zI ?_ _ | refine zJ ?_ | refine zH ?_ _)); refine zO (cs := #[.int .i64 ah, .int .i64 0, .slice none 0 0, .slice none 0 0, .slice none 0 0, .slice none 0 0]) ?_ 1 _ rfl; (with_reducible repeat (first | refine zI ?_ _ | refine zJ ?_ | refine zH ?_ _)); refine zO (cs := #[.int .i64 0, .int .i64 0, .slice none 0 0, .slice none 0 0, .slice none 0 0, .slice none 0 0]) ?_ 0 _ rfl; (with_reducible repeat (first | refine zI ?_ _ | refine zJ ?_ | refine zH ?_ _)); exact aW.out) hb); have jz := zA (zG (zz0g HB ac aA eT) hb); clear aa; clear aj; clear aW; clear HB; have cJ := g2; have aa := g3; have aj := g4; have aW := g5; have HB := jz; clear g2 g3 g4 g5 jz; (try clear hb); (try clear hb2); (try clear hk); (try clear hi); (try clear b7); obtain ⟨eU, eV, pm⟩ := Kd.S_slice cJ.out; subst pm; have gf : hz.cell? ⟨br, 0, none⟩ = some (.int .i64 ah) := (zK aW.out 0).trans rfl; have gg : hz.cell? ⟨br, 1, none⟩ = some (.int .i64 ai) := (zK aW.out 1).trans rfl; have gh : hz.cell? ⟨br, 2, none⟩ = some (.slice none 0 0) := (zK aW.out 2).trans rfl; have gi : hz.cell? ⟨br, 3, none⟩ = some (.slice none 0 0) := (zK aW.out 3).trans rfl; have gj : hz.cell? ⟨br, 4, none⟩ = some (.slice none 0 0) := (zK aW.out 4).trans rfl; have gl : hz.cell? ⟨br, 5, none⟩ = some (.slice none 0 0) := (zK aW.out 5).trans rfl; have hfz16_0 := zL aW.out 0; have hfz16_1 := zL aW.out 1; have hfz16_2 := zL aW.out 2; have hfz16_3 := zL aW.out 3; have hfz16_4 := zL aW.out 4; have hfz16_5 := zL aW.out 5; have iH : hz.cell? ⟨ad, 0, none⟩ = some (.int .i64 ah) := (zK aa.out 0).trans rfl; have iI : hz.cell? ⟨ad, 1, none⟩ = some (.int .i64 ai) := (zK aa.out 1).trans rfl; have iJ : hz.cell? ⟨ad, 2, none⟩ = some (.slice ay ab.length ap) := (zK aa.out 2).trans rfl; have iK : hz.cell? ⟨ad, 3, none⟩ = some (.slice ax ae.length au) := (zK aa.out 3).trans rfl; have iL : hz.cell? ⟨ad, 4, none⟩ = some (.slice aq ag.length ar) := (zK aa.out 4).trans rfl; have iM : hz.cell? ⟨ad, 5, none⟩ = some (.slice av af.length aw) := (zK aa.out 5).trans rfl; have hfz17_5 := zL aa.out 5) | ((with_reducible refine gate_callee (f := 52) rfl ?_); refine goesL_ (some 16) rfl rfl Try.func52 zz1j rfl #[.slice ax ae.length au] rfl zz0i ?_; (with_reducible refine (laws_toIntSS.calls k _ _ ae b8 _ ?ak ?al A3.out).mono ?_); (case ak => exact zS bq.out (zz0g HB ac aA eT)); (case al => exact bG.out); rintro e jw ⟨pn, rfl, b7, hb⟩; refine ⟨_, rfl, ?_⟩; have hsz_ := hb.size; (try simp at hsz_); have Z2_ := zA (show hz.heap.size ≤ jw.heap.size by omega); clear hsz_; replace b7 := Kd.S_mono (ok' := fun q_ => hz.heap.size ≤ q_ ∧ q_ < jw.heap.size) (Kd.S_bound b7) (fun q_ h_ => ⟨zz17, h_.2.2.1⟩); have g2 := zA (Kd.S_elder' zz08 (Kd.S_base b7) hb); have g3 := zA (Kd.S_lower (Kd.S_new' b7 (Kd.S_lt zz08)) (zF (zz0g HB ac aA eT))); have g4 := zA (zM (g := ad) (o := .cells #[.int .i64 ah, .int .i64 ai, .slice ay ab.length ap, .slice ax ae.length au, .slice aq ag.length ar, .slice av af.length aw] 25 (0, 0)) (zz0d eq aa) hb); have g5 := zA (zM (g := an) (o := .cells #[.int .i64 0, .int .i64 0, .slice none 0 0, .slice none 0 0, .slice none 0 0, .slice none 0 0] 29 (0, 0)) (zz0d dR aj) hb); have jz := zA (zM (g := br) (o := .cells #[.int .i64 ah, .int .i64 ai, .slice eU aY.length eV, .slice none 0 0, .slice none 0 0, .slice none 0 0] 29 (0, 0)) (by (with_reducible repeat (first | refine zI ?_ _ | refine zJ ?_ | refine zH ?_ _)); refine zO (cs := #[.int .i64 ah, .int .i64 ai, .slice none 0 0, .slice none 0 0, .slice none 0 0, .slice none 0 0]) ?_ 2 _ rfl; (with_reducible repeat (first | refine zI ?_ _ | refine zJ ?_ | refine zH ?_ _)); exact aW.out) hb); have kX := zA (zG (zz0g HB ac aA eT) hb); clear cJ; clear aa; clear aj; clear aW; clear HB; have cJ := g2; have cM := g3; have aa := g4; have aj := g5; have aW := jz; have HB := kX; clear g2 g3 g4 g5 jz kX; (try clear hb); (try clear hb2); (try clear hk); (try clear hi); (try clear b7); obtain ⟨f0, f1, po⟩ := Kd.S_slice cM.out; subst po; have iN : jw.cell? ⟨br, 0, none⟩ = some (.int .i64 ah) := (zK aW.out 0).trans rfl; have iO : jw.cell? ⟨br, 1, none⟩ = some (.int .i64 ai) := (zK aW.out 1).trans rfl; have iP : jw.cell? ⟨br, 2, none⟩ = some (.slice eU aY.length eV) := (zK aW.out 2).trans rfl; have iQ : jw.cell? ⟨br, 3, none⟩ = some (.slice none 0 0) := (zK aW.out 3).trans rfl; have iR : jw.cell? ⟨br, 4, none⟩ = some (.slice none 0 0) := (zK aW.out 4).trans rfl; have iS : jw.cell? ⟨br, 5, none⟩ = some (.slice none 0 0) := (zK aW.out 5).trans rfl; have hfz20_0 := zL aW.out 0; have hfz20_1 := zL aW.out 1; have hfz20_2 := zL aW.out 2; have hfz20_3 := zL aW.out 3; have hfz20_4 := zL aW.out 4; have hfz20_5 := zL aW.out 5; have hcz21_0 : jw.cell? ⟨ad, 0, none⟩ = some (.int .i64 ah) := (zK aa.out 0).trans rfl; have hcz21_1 : jw.cell? ⟨ad, 1, none⟩ = some (.int .i64 ai) := (zK aa.out 1).trans rfl; have hcz21_2 : jw.cell? ⟨ad, 2, none⟩ = some (.slice ay ab.length ap) := (zK aa.out 2).trans rfl; have hcz21_3 : jw.cell? ⟨ad, 3, none⟩ = some (.slice ax ae.length au) := (zK aa.out 3).trans rfl; have hcz21_4 : jw.cell? ⟨ad, 4, none⟩ = some (.slice aq ag.length ar) := (zK aa.out 4).trans rfl; have hcz21_5 : jw.cell? ⟨ad, 5, none⟩ = some (.slice av af.length aw) := (zK aa.out 5).trans rfl; have hfz21_5 := zL aa.out 5) | ((with_reducible refine gate_callee (f := 29) rfl ?_); refine goesL_ (some 20) rfl rfl Try.func29 zz1j rfl #[.slice aq ag.length ar] rfl zz0i ?_; (with_reducible refine (laws_toIntS.calls k _ _ ag bU _ ?ak ?al A4.out).mono ?_); (case ak => exact zS bH.out (zz0g HB ac aA eT)); (case al => exact bI.out); rintro e iw ⟨ns, rfl, b7, hb⟩; refine ⟨_, rfl, ?_⟩; have hsz_ := hb.size; (try simp at hsz_); have Z3_ := zA (show jw.heap.size ≤ iw.heap.size by omega); clear hsz_; replace b7 := Kd.R_mono (ok' := fun q_ => jw.heap.size ≤ q_ ∧ q_ < iw.heap.size) (Kd.R_bound b7) (fun q_ h_ => ⟨zz17, h_.2.2.1⟩); have g2 := zA (Kd.S_elder' (by (with_reducible repeat (first | apply Kd.S_alloc | apply Kd.S_drewN | apply Kd.S_drew)); exact (Kd.S_mono (Kd.S_far (p := ⟨br, 3, none⟩) (Kd.S_types cJ.out aW.out zz1m) (fun _ hk => hk.2) (.slice f0 b8.length f1)) (fun _ h_ => h_.1))) (Kd.R_base b7) hb); have g3 := zA (Kd.S_elder' (by (with_reducible repeat (first | apply Kd.S_alloc | apply Kd.S_drewN | apply Kd.S_drew)); exact (Kd.S_mono (Kd.S_far (p := ⟨br, 3, none⟩) (Kd.S_types cM.out aW.out zz1m) (fun _ hk => hk.2) (.slice f0 b8.length f1)) (fun _ h_ => h_.1))) (Kd.R_base b7) hb); have g4 := zA (Kd.R_lower b7 (zF (zz0g HB ac aA eT))); have g5 := zA (zM (g := ad) (o := .cells #[.int .i64 ah, .int .i64 ai, .slice ay ab.length ap, .slice ax ae.length au, .slice aq ag.length ar, .slice av af.length aw] 25 (0, 0)) (zz0d eq aa) hb); have jz := zA (zM (g := an) (o := .cells #[.int .i64 0, .int .i64 0, .slice none 0 0, .slice none 0 0, .slice none 0 0, .slice none 0 0] 29 (0, 0)) (zz0d dR aj) hb); have kX := zA (zM (g := br) (o := .cells #[.int .i64 ah, .int .i64 ai, .slice eU aY.length eV, .slice f0 b8.length f1, .slice none 0 0, .slice none 0 0] 29 (0, 0)) (by (with_reducible repeat (first | refine zI ?_ _ | refine zJ ?_ | refine zH ?_ _)); refine zO (cs := #[.int .i64 ah, .int .i64 ai, .slice eU aY.length eV, .slice none 0 0, .slice none 0 0, .slice none 0 0]) ?_ 3 _ rfl; (with_reducible repeat (first | refine zI ?_ _ | refine zJ ?_ | refine zH ?_ _)); exact aW.out) hb); have l5 := zA (zG (zz0g HB ac aA eT) hb); clear cJ; clear cM; clear aa; clear aj; clear aW; clear HB; have cJ := g2; have cM := g3; have cO := g4; have aa := g5; have aj := jz; have aW := kX; have HB := l5; clear g2 g3 g4 g5 jz kX l5; (try clear hb); (try clear hb2); (try clear hk); (try clear hi); (try clear b7); obtain ⟨f2, fa, nt⟩ := Kd.R_slice cO.out; subst nt; have hcz24_0 : iw.cell? ⟨br, 0, none⟩ = some (.int .i64 ah) := (zK aW.out 0).trans rfl; have hcz24_1 : iw.cell? ⟨br, 1, none⟩ = some (.int .i64 ai) := (zK aW.out 1).trans rfl; have hcz24_2 : iw.cell? ⟨br, 2, none⟩ = some (.slice eU aY.length eV) := (zK aW.out 2).trans rfl; have hcz24_3 : iw.cell? ⟨br, 3, none⟩ = some (.slice f0 b8.length f1) := (zK aW.out 3).trans rfl; have hcz24_4 : iw.cell? ⟨br, 4, none⟩ = some (.slice none 0 0) := (zK aW.out 4).trans rfl; have hcz24_5 : iw.cell? ⟨br, 5, none⟩ = some (.slice none 0 0) := (zK aW.out 5).trans rfl; have hfz24_0 := zL aW.out 0; have hfz24_1 := zL aW.out 1; have hfz24_2 := zL aW.out 2; have hfz24_3 := zL aW.out 3; have hfz24_4 := zL aW.out 4; have hfz24_5 := zL aW.out 5; have hcz25_0 : iw.cell? ⟨ad, 0, none⟩ = some (.int .i64 ah) := (zK aa.out 0).trans rfl; have hcz25_1 : iw.cell? ⟨ad, 1, none⟩ = some (.int .i64 ai) := (zK aa.out 1).trans rfl; have hcz25_2 : iw.cell? ⟨ad, 2, none⟩ = some (.slice ay ab.length ap) := (zK aa.out 2).trans rfl; have hcz25_3 : iw.cell? ⟨ad, 3, none⟩ = some (.slice ax ae.length au) := (zK aa.out 3).trans rfl; have hcz25_4 : iw.cell? ⟨ad, 4, none⟩ = some (.slice aq ag.length ar) := (zK aa.out 4).trans rfl; have hcz25_5 : iw.cell? ⟨ad, 5, none⟩ = some (.slice av af.length aw) := (zK aa.out 5).trans rfl; have hfz25_5 := zL aa.out 5) | ((with_reducible refine gate_callee (f := 52) rfl ?_); refine goesL_ (some 24) rfl rfl Try.func52 zz1j rfl #[.slice av af.length aw] rfl zz0i ?_; (with_reducible refine (laws_toIntSS.calls k _ _ af dZ _ ?ak ?al A5.out).mono ?_); (case ak => exact zS bJ.out (zz0g HB ac aA eT)); (case al => exact bN.out); rintro e kc ⟨d0, rfl, b7, hb⟩; refine ⟨_, rfl, ?_⟩; have hsz_ := hb.size; (try simp at hsz_); have Z4_ := zA (show iw.heap.size ≤ kc.heap.size by omega); clear hsz_; replace b7 := Kd.S_mono (ok' := fun q_ => iw.heap.size ≤ q_ ∧ q_ < kc.heap.size) (Kd.S_bound b7) (fun q_ h_ => ⟨zz17, h_.2.2.1⟩); have g2 := zA (Kd.S_elder' zz09 (Kd.S_base b7) hb); have g3 := zA (Kd.S_elder' zz0a (Kd.S_base b7) hb); have g4 := zA (Kd.R_below zz0b hb); have g5 := zA (Kd.S_lower (Kd.S_new' (Kd.S_new' (Kd.S_new' b7 (Kd.S_lt zz09)) (Kd.S_lt zz0a)) (Kd.R_lt zz0b)) (zF (zz0g HB ac aA eT))); have jz := zA (zM (g := ad) (o := .cells #[.int .i64 ah, .int .i64 ai, .slice ay ab.length ap, .slice ax ae.length au, .slice aq ag.length ar, .slice av af.length aw] 25 (0, 0)) (zz0d eq aa) hb); have kX := zA (zM (g := an) (o := .cells #[.int .i64 0, .int .i64 0, .slice none 0 0, .slice none 0 0, .slice none 0 0, .slice none 0 0] 29 (0, 0)) (zz0d dR aj) hb); have l5 := zA (zM (g := br) (o := .cells #[.int .i64 ah, .int .i64 ai, .slice eU aY.length eV, .slice f0 b8.length f1, .slice f2 bU.length fa, .slice none 0 0] 29 (0, 0)) (by (with_reducible repeat (first | refine zI ?_ _ | refine zJ ?_ | refine zH ?_ _)); refine zO (cs := #[.int .i64 ah, .int .i64 ai, .slice eU aY.length eV, .slice f0 b8.length f1, .slice none 0 0, .slice none 0 0]) ?_ 4 _ rfl; (with_reducible repeat (first | refine zI ?_ _ | refine zJ ?_ | refine zH ?_ _)); exact aW.out) hb); have qE := zA (zG (zz0g HB ac aA eT) hb); clear cJ; clear cM; clear cO; clear aa; clear aj; clear aW; clear HB; have cJ := g2; have cM := g3; have cO := g4; have dg := g5; have aa := jz; have aj := kX; have aW := l5; have HB := qE; clear g2 g3 g4 g5 jz kX l5 qE; (try clear hb); (try clear hb2); (try clear hk); (try clear hi); (try clear b7); obtain ⟨iT, iU, eo27⟩ := Kd.S_slice dg.out; subst eo27; have hcz28_0 : kc.cell? ⟨br, 0, none⟩ = some (.int .i64 ah) := (zK aW.out 0).trans rfl; have hcz28_1 : kc.cell? ⟨br, 1, none⟩ = some (.int .i64 ai) := (zK aW.out 1).trans rfl; have hcz28_2 : kc.cell? ⟨br, 2, none⟩ = some (.slice eU aY.length eV) := (zK aW.out 2).trans rfl; have hcz28_3 : kc.cell? ⟨br, 3, none⟩ = some (.slice f0 b8.length f1) := (zK aW.out 3).trans rfl; have hcz28_4 : kc.cell? ⟨br, 4, none⟩ = some (.slice f2 bU.length fa) := (zK aW.out 4).trans rfl; have hcz28_5 : kc.cell? ⟨br, 5, none⟩ = some (.slice none 0 0) := (zK aW.out 5).trans rfl; have hfz28_0 := zL aW.out 0; have hfz28_1 := zL aW.out 1; have hfz28_2 := zL aW.out 2; have hfz28_3 := zL aW.out 3; have hfz28_4 := zL aW.out 4; have hfz28_5 := zL aW.out 5; have hcz29_0 : kc.cell? ⟨an, 0, none⟩ = some (.int .i64 0) := (zK aj.out 0).trans rfl; have hcz29_1 : kc.cell? ⟨an, 1, none⟩ = some (.int .i64 0) := (zK aj.out 1).trans rfl; have hcz29_2 : kc.cell? ⟨an, 2, none⟩ = some (.slice none 0 0) := (zK aj.out 2).trans rfl; have hcz29_3 : kc.cell? ⟨an, 3, none⟩ = some (.slice none 0 0) := (zK aj.out 3).trans rfl; have hcz29_4 : kc.cell? ⟨an, 4, none⟩ = some (.slice none 0 0) := (zK aj.out 4).trans rfl; have hcz29_5 : kc.cell? ⟨an, 5, none⟩ = some (.slice none 0 0) := (zK aj.out 5).trans rfl; have hfz29_0 := zL aj.out 0; have hfz29_1 := zL aj.out 1; have hfz29_2 := zL aj.out 2; have hfz29_3 := zL aj.out 3; have hfz29_4 := zL aj.out 4; have hfz29_5 := zL aj.out 5)); refine bodyPost_ret (results_cell_row rfl _ _ an 29 #[.int .i64 ah, .int .i64 ai, .slice eU aY.length eV, .slice f0 b8.length f1, .slice f2 bU.length fa, .slice iT dZ.length iU] (0, 0) _ rfl (by (with_reducible repeat (first | refine zI ?_ _ | refine zJ ?_ | refine zH ?_ _)); refine zO (cs := #[.int .i64 ah, .int .i64 ai, .slice eU aY.length eV, .slice f0 b8.length f1, .slice f2 bU.length fa, .slice none 0 0]) ?_ 5 _ rfl; (with_reducible repeat (first | refine zI ?_ _ | refine zJ ?_ | refine zH ?_ _)); refine zO (cs := #[.int .i64 ah, .int .i64 ai, .slice eU aY.length eV, .slice f0 b8.length f1, .slice none 0 0, .slice none 0 0]) ?_ 4 _ rfl; (with_reducible repeat (first | refine zI ?_ _ | refine zJ ?_ | refine zH ?_ _)); refine zO (cs := #[.int .i64 ah, .int .i64 ai, .slice eU aY.length eV, .slice none 0 0, .slice none 0 0, .slice none 0 0]) ?_ 3 _ rfl; (with_reducible repeat (first | refine zI ?_ _ | refine zJ ?_ | refine zH ?_ _)); refine zO (cs := #[.int .i64 ah, .int .i64 ai, .slice none 0 0, .slice none 0 0, .slice none 0 0, .slice none 0 0]) ?_ 2 _ rfl; (with_reducible repeat (first | refine zI ?_ _ | refine zJ ?_ | refine zH ?_ _)); refine zO (cs := #[.int .i64 ah, .int .i64 0, .slice none 0 0, .slice none 0 0, .slice none 0 0, .slice none 0 0]) ?_ 1 _ rfl; (with_reducible repeat (first | refine zI ?_ _ | refine zJ ?_ | refine zH ?_ _)); refine zO (cs := #[.int .i64 0, .int .i64 0, .slice none 0 0, .slice none 0 0, .slice none 0 0, .slice none 0 0]) ?_ 0 _ rfl; (with_reducible repeat (first | refine zI ?_ _ | refine zJ ?_ | refine zH ?_ _)); refine zN ?_ dR.out _; (with_reducible repeat (first | refine zI ?_ _ | refine zJ ?_ | refine zH ?_ _)); exact aj.out) Try.underlying29 rfl zz1j) rfl ?_; exact ⟨_, _, _, _, w8.heap.size, hz.heap.size, jw.heap.size, iw.heap.size, kc.heap.size, zz0z, ⟨Z0_.out, Z1_.out, Z2_.out, Z3_.out, Z4_.out, by first | (simp; done) | omega | (simp; omega)⟩, zz00 cJ aW aj, zz00 cM aW aj, by (with_reducible repeat (first | apply zT | apply zU | apply zV)); exact Kd.R_mono (Kd.R_far (p := ⟨an, 5, none⟩) (Kd.R_far (p := ⟨an, 4, none⟩) (Kd.R_far (p := ⟨an, 3, none⟩) (Kd.R_far (p := ⟨an, 2, none⟩) (Kd.R_far (p := ⟨an, 1, none⟩) (Kd.R_far (p := ⟨an, 0, none⟩) (Kd.R_far (p := ⟨br, 5, none⟩) (Kd.R_types (Kd.R_types cO.out aW.out zz1m) aj.out zz1m) (fun _ hk => hk.1.2) (.slice iT dZ.length iU)) (fun _ hk => hk.2) (.int .i64 ah)) (fun _ hk => hk.2) (.int .i64 ai)) (fun _ hk => hk.2) (.slice eU aY.length eV)) (fun _ hk => hk.2) (.slice f0 b8.length f1)) (fun _ hk => hk.2) (.slice f2 bU.length fa)) (fun _ hk => hk.2) (.slice iT dZ.length iU)) (fun _ hk => by repeat (first | exact hk | replace hk := hk.1)), zz00 dg aW aj, zz0g HB ac aA eT⟩
theorem laws_toBinary.calls (k : Nat) (ah : Int) (ai : Int) (ay : Option Addr) (ap : Nat) (ab : List (List Int)) (ax : Option Addr) (au : Nat) (ae : List (List Int)) (aq : Option Addr) (ar : Nat) (ag : List Int) (av : Option Addr) (aw : Nat) (af : List (List Int)) (r1 : Int) (r2 : Int) (r3 : List (List Int)) (r4 : List (List Int)) (r5 : List Int) (r6 : List (List Int)) (w : World) (bw : Kd.C (Kd.slice 3 (Kd.int .i64)) w ay ab.length ab) (bx : ab.length ≤ ap) (bz : Kd.C (Kd.slice 3 (Kd.int .i64)) w ax ae.length ae) (bA : ae.length ≤ au) (bB : Kd.C (Kd.int .i64) w aq ag.length ag) (bC : ag.length ≤ ar) (bD : Kd.C (Kd.slice 3 (Kd.int .i64)) w av af.length af) (bE : af.length ≤ aw) (h : laws_toBinary.f k ah ai ab ae ag af = some (r1, r2, r3, r4, r5, r6)) :
 Calls Try.prog 14 #[.agg #[.int .i64 ah, .int .i64 ai, .slice ay ab.length ap, .slice ax ae.length au, .slice aq ag.length ar, .slice av af.length aw]] w fun e w' => ∃ pj pk n7 pl : Value, e = .returned (.agg #[.int .i64 r1, .int .i64 r2, pj, pk, n7, pl]) ∧ Kd.S (Kd.slice 3 (Kd.int .i64)) 23 w' w.heap.size (fun k_ => some k_ ≠ (pk : Value).ownBlock ∧ some k_ ≠ (n7 : Value).ownBlock ∧ some k_ ≠ (pl : Value).ownBlock) pj r3 ∧ Kd.S (Kd.slice 3 (Kd.int .i64)) 23 w' w.heap.size (fun k_ => some k_ ≠ (pj : Value).ownBlock ∧ some k_ ≠ (n7 : Value).ownBlock ∧ some k_ ≠ (pl : Value).ownBlock) pk r4 ∧ Kd.R (Kd.int .i64) 3 w' w.heap.size (fun _ => True) n7 r5 ∧ Kd.S (Kd.slice 3 (Kd.int .i64)) 23 w' w.heap.size (fun k_ => some k_ ≠ (pj : Value).ownBlock ∧ some k_ ≠ (pk : Value).ownBlock ∧ some k_ ≠ (n7 : Value).ownBlock) pl r6 ∧ Below w.heap.size w w' := by
 refine (laws_toBinary.apart k ah ai ay ap ab ax au ae aq ar ag av aw af r1 r2 r3 r4 r5 r6 w bw bx bz bA bB bC bD bE h).mono ?_; rintro e w' ⟨v2, v3, v4, v5, m0, m1, m2, m3, m4, rfl, hm, h2, h3, h4, h5, hb⟩; have o2 : ∀ k, (v2 : Value).ownBlock = some k → m0 ≤ k ∧ k < m1 := by obtain ⟨_, g⟩ := id h2; exact g.1
 have o3 : ∀ k, (v3 : Value).ownBlock = some k → m1 ≤ k ∧ k < m2 := by obtain ⟨_, g⟩ := id h3; exact g.1
 have o4 : ∀ k, (v4 : Value).ownBlock = some k → m2 ≤ k ∧ k < m3 := h4.1; have o5 : ∀ k, (v5 : Value).ownBlock = some k → m3 ≤ k ∧ k < m4 := by obtain ⟨_, g⟩ := id h5; exact g.1
 exact ⟨v2, v3, v4, v5, rfl, Kd.S_mono h2 (fun k_ hk => ⟨fun e_ => by have := o3 k_ e_.symm; omega, fun e_ => by have := o4 k_ e_.symm; omega, fun e_ => by have := o5 k_ e_.symm; omega⟩), Kd.S_mono h3 (fun k_ hk => ⟨fun e_ => by have := o2 k_ e_.symm; omega, fun e_ => by have := o4 k_ e_.symm; omega, fun e_ => by have := o5 k_ e_.symm; omega⟩), Kd.R_mono h4 (fun _ _ => trivial), Kd.S_mono h5 (fun k_ hk => ⟨fun e_ => by have := o2 k_ e_.symm; omega, fun e_ => by have := o3 k_ e_.symm; omega, fun e_ => by have := o4 k_ e_.symm; omega⟩), hb⟩
end Go.Proofs.Ytkocahlifffgjaa.P
namespace Go.Proofs.Ytkocahlifffgjaa.P
open Go.RowKit Go.Proofs.YtkocahlifffgjaaW.PrintWords
set_option linter.unusedVariables false
set_option linter.unusedSimpArgs false
def smallB (ps os : List (List Int)) (es : List Int) (fs : List (List Int)) : Prop := smallL ps ∧ smallL os ∧ es.length ≤ 1048576 ∧ smallL fs
theorem szBinary_fr (a0 a1 : Int) (l2 l3 : List (List Int)) (l4 : List Int) (l5 : List (List Int)) (h2 : fitL l2) (h3 : fitL l3) (h4 : l4.length ≤ 9223372036854775807) (h5 : fitL l5) (a : Int) (ha : 0 ≤ a) (ha2 : a ≤ 1048576) :
 ∃ t, Ev (fun k => laws_szBinary.f k a0 a1 l2 l3 l4 l5 a) t ∧ t ≤ 1048576 ∧ (0 ≤ t → smallB l2 l3 l4 l5) := by
 obtain ⟨t2, ⟨K2, e2⟩, b2, s2⟩ := szIntSS_fr l2 h2.1 h2.2 a ha ha2; dsimp only at e2; by_cases n2 : t2 < 0
 · refine ⟨-1, ⟨K2, fun k hk => ?_⟩, zz1n, fun h => by omega⟩; dsimp only; unfold laws_szBinary.f; rw [e2 k hk]; simp only [Option.bind_some]; rw [if_pos n2]
 · obtain ⟨t3, ⟨K3, e3⟩, b3, s3⟩ := szIntSS_fr l3 h3.1 h3.2 t2 zz1n b2; dsimp only at e3; by_cases n3 : t3 < 0
   · refine ⟨-1, ⟨K2 + K3, fun k hk => ?_⟩, zz1n, fun h => by omega⟩; dsimp only; unfold laws_szBinary.f; rw [e2 k zz1n]; simp only [Option.bind_some]; rw [if_neg n2, e3 k zz1n]; simp only [Option.bind_some]; rw [if_pos n3]
   · have e4 := szIntS_eq l4 t3 b3 zz1n h4; by_cases n4 : t3 - (l4.length : Int) < 0
     · rw [if_pos n4] at e4; refine ⟨-1, ⟨K2 + K3, fun k hk => ?_⟩, zz1n, fun h => by omega⟩; dsimp only; unfold laws_szBinary.f; rw [e2 k zz1n]; simp only [Option.bind_some]; rw [if_neg n2, e3 k zz1n]; simp only [Option.bind_some]; rw [if_neg n3, e4]; rfl
     · rw [if_neg n4] at e4; obtain ⟨t5, ⟨K5, e5⟩, b5, s5⟩ := szIntSS_fr l5 h5.1 h5.2 (t3 - l4.length) zz1n zz1n; dsimp only at e5; by_cases n5 : t5 < 0
       · refine ⟨-1, ⟨K2 + K3 + K5, fun k hk => ?_⟩, zz1n, fun h => by omega⟩; dsimp only; unfold laws_szBinary.f; rw [e2 k zz1n]; simp only [Option.bind_some]; rw [if_neg n2, e3 k zz1n]; simp only [Option.bind_some]; rw [if_neg n3, e4]; simp only [Option.bind_some]; rw [if_neg n4, e5 k zz1n]; simp only [Option.bind_some]; rw [if_pos n5]
       · refine ⟨t5, ⟨K2 + K3 + K5, fun k hk => ?_⟩, b5, fun h => ⟨s2 zz1n, s3 zz1n, zz1n, s5 h⟩⟩; dsimp only; unfold laws_szBinary.f; rw [e2 k zz1n]; simp only [Option.bind_some]; rw [if_neg n2, e3 k zz1n]; simp only [Option.bind_some]; rw [if_neg n3, e4]; simp only [Option.bind_some]; rw [if_neg n4, e5 k zz1n]; simp only [Option.bind_some]; rw [if_neg n5]
theorem toBinary_ev (a0 a1 : Int) (l2 l3 : List (List Int)) (l4 : List Int) (l5 : List (List Int)) (h : smallB l2 l3 l4 l5) : Ev (fun k => laws_toBinary.f k a0 a1 l2 l3 l4 l5) (a0, a1, l2, l3, l4, l5) := by
 obtain ⟨K2, e2⟩ := toIntSS_ev l2 h.1; obtain ⟨K3, e3⟩ := toIntSS_ev l3 h.2.1; obtain ⟨K4, e4⟩ := toIntS_ev l4 h.2.2.1; obtain ⟨K5, e5⟩ := toIntSS_ev l5 h.2.2.2; dsimp only at e2 e3 e4 e5; refine ⟨K2 + K3 + K4 + K5, fun k hk => ?_⟩; dsimp only; unfold laws_toBinary.f; rw [e2 k zz1n, e3 k zz1n, e4 k zz1n, e5 k zz1n]; rfl
theorem eqBinary_ev (a0 a1 : Int) (l2 l3 : List (List Int)) (l4 : List Int) (l5 : List (List Int)) (h : smallB l2 l3 l4 l5) : Ev (fun k => laws_eqBinary.f k a0 a1 l2 l3 l4 l5 a0 a1 l2 l3 l4 l5) true := by
 obtain ⟨K2, e2⟩ := eqIntSS_ev l2 h.1.1 h.1.2; obtain ⟨K3, e3⟩ := eqIntSS_ev l3 h.2.1.1 h.2.1.2; obtain ⟨K4, e4⟩ := eqIntS_ev l4 (by have := h.2.2.1; omega); obtain ⟨K5, e5⟩ := eqIntSS_ev l5 h.2.2.2.1 h.2.2.2.2; dsimp only at e2 e3 e4 e5; refine ⟨K2 + K3 + K4 + K5, fun k hk => ?_⟩; dsimp only; unfold laws_eqBinary.f; rw [if_pos rfl, if_pos rfl, e2 k zz1n]; simp only [Option.bind_some, if_true]; rw [e3 k zz1n]; simp only [Option.bind_some, if_true]; rw [e4 k zz1n]; simp only [Option.bind_some, if_true]; rw [e5 k zz1n]; rfl
theorem reads_smallB {w : World} {A2 A3 A4 A5 : Option Addr} {l2 l3 : List (List Int)} {l4 : List Int} {l5 : List (List Int)} (h2 : Kd.C (Kd.slice 3 (Kd.int .i64)) w A2 l2.length l2) (h3 : Kd.C (Kd.slice 3 (Kd.int .i64)) w A3 l3.length l3) (h4 : Kd.C (Kd.int .i64) w A4 l4.length l4) (h5 : Kd.C (Kd.slice 3 (Kd.int .i64)) w A5 l5.length l5) : (fitL l2 ∧ fitL l3) ∧ (l4.length ≤ 9223372036854775807 ∧ fitL l5) := ⟨⟨reads_fitL h2, reads_fitL h3⟩, h4.2.1, reads_fitL h5⟩
theorem szBinary_from (a0 a1 : Int) (l2 l3 : List (List Int)) (l4 : List Int) (l5 : List (List Int)) (h : fitL l2 ∧ fitL l3) (h' : l4.length ≤ 9223372036854775807 ∧ fitL l5) (a : Int) (ha : 0 ≤ a) (ha2 : a ≤ 1048576) :
 ∃ t, Ev (fun k => laws_szBinary.f k a0 a1 l2 l3 l4 l5 a) t ∧ t ≤ 1048576 ∧ (0 ≤ t → smallB l2 l3 l4 l5) := szBinary_fr a0 a1 l2 l3 l4 l5 h.1 h.2 h'.1 h'.2 a ha ha2
end Go.Proofs.Ytkocahlifffgjaa.P
namespace Go.Proofs.Ytkocahlifffgjaa.P
open Go.RowKit Go.Proofs.YtkocahlifffgjaaW.PrintWords Go.Proofs.YtkocahlifffgjaaW.PrintLast Go.Proofs.YtkocahlifffgjaaW.PrintMore
set_option linter.unusedVariables false
set_option linter.unusedSimpArgs false
def PredL (g : Nat) (lb : Array Value) (p : List Int → Bool) (w : World) : Prop :=
 ∀ (W : World) (x : List Int) (A : Option Addr) (c : Nat), Below w.heap.size w W → x.length ≤ c → Kd.C (Kd.int .i64) W A x.length x →
  Calls Try.prog g (#[.slice A x.length c] ++ lb) W fun e w' => e = .returned (.bool (p x)) ∧ Below W.heap.size W w'
set_option maxHeartbeats 2000000 in
set_option maxRecDepth 100000 in
theorem indexFunc_row (g : Nat) (lb : Array Value) (eg : ∀ args w, (callFunc g args).run Try.prog w = .ok (.enter g args) w) (p : List Int → Bool) (A : Option Addr) (c : Nat) (l : List (List Int)) (w : World)
 (hr : Kd.C (Kd.slice 3 (Kd.int .i64)) w A l.length l) (hc : l.length ≤ c) (hp : PredL g lb p w) :
 Calls Try.prog 114 #[.slice A l.length c, .func (.func g) #[] lb] w fun e w' => e = .returned (.int .i64 (idxF p l)) ∧ Below w.heap.size w w' := by
 have hmax : l.length ≤ 9223372036854775807 := hr.2.1; go_enter Try.func114, Try.ntmps114; go_wp2; go_loopg [5, 8] l.length (fun gg _ s8 wr => ∃ kk : Nat, kk ≤ l.length ∧ l.length - kk ≤ gg ∧ s8 = .int .i64 kk ∧ Aside0 (Below w.heap.size w wr) ∧ Aside0 (∀ j, j < kk → p (l.getD j []) = false))
 case atStart => exact ⟨0, Nat.zero_le _, zz1n, rfl, ⟨Below.refl _ w⟩, ⟨fun j hj => absurd hj (Nat.not_lt_zero _)⟩⟩
 case round =>
  obtain ⟨kk, hkk, hg, rfl, BW, A0⟩ := hrel; by_cases hlt : kk < l.length
  · obtain ⟨ad, A1, c1, e, hx0, hl1, hi1⟩ := at_L1 (zS hr BW.out) (kk : Int) zz1n zz1n; subst e; have hx2 : wr.cell? (ad.add kk) = some (.slice A1 (rd_L1 l kk).length c1) := by simpa using hx0
    have hcall := hp wr (rd_L1 l kk) A1 c1 BW.out hl1 hi1; have hB := zA (show l.getD kk [] = rd_L1 l kk from rfl); have L := zA hlt; have hd : decide (kk < l.length) = true := decide_eq_true hlt; clear hx0 hp hr hl1 hi1; generalize rd_L1 l kk = y at hcall hB hx2; cases hq : p y with
    | true =>
     rw [hq] at hcall; have Q := zA hq; clear hq; go_wp2_with fail; refine hcall.mono ?_; rintro e w' ⟨rfl, hb'⟩; clear hcall hd eg hlt; go_wp2; go_ret; refine ⟨?_, zG BW.out hb'⟩; rw [idxF_hit p l [] kk L.out (zz1d hB Q) A0.out]; rfl
    | false =>
     rw [hq] at hcall; have Q := zA hq; clear hq; go_wp2_with fail; refine hcall.mono ?_; rintro e w' ⟨rfl, hb'⟩; clear hcall hd eg; go_wp2
     go_roundg (l.length - (kk + 1))
     case measure => have := L.out; omega
     case rel =>
      refine ⟨kk + 1, zz1e L, zz1n, zz1l, ⟨zG BW.out hb'⟩, ⟨fun j hj => ?_⟩⟩; by_cases ej : j = kk
      · subst ej; rw [hB.out]; exact Q.out
      · exact A0.out j zz1n
  · have hd : decide (kk < l.length) = false := decide_eq_false hlt; have L := zA (show kk = l.length by omega); clear hp hr hlt; go_wp2; go_ret; refine ⟨?_, BW.out⟩; rw [idxF_miss p l [] (by have := A0.out; rw [L.out] at this; exact this)]; rfl
set_option maxHeartbeats 2000000 in
theorem containsFunc_row (g : Nat) (lb : Array Value) (eg : ∀ args w, (callFunc g args).run Try.prog w = .ok (.enter g args) w) (p : List Int → Bool) (A : Option Addr) (c : Nat) (l : List (List Int)) (w : World)
 (hr : Kd.C (Kd.slice 3 (Kd.int .i64)) w A l.length l) (hc : l.length ≤ c) (hp : PredL g lb p w) :
 Calls Try.prog 91 #[.slice A l.length c, .func (.func g) #[] lb] w fun e w' => e = .returned (.bool (l.any p)) ∧ Below w.heap.size w w' := by
 have H := indexFunc_row g lb eg p A c l w hr hc hp; have hz := zA (idxF_any p l); generalize idxF p l = i at H hz; go_enter Try.func91, Try.ntmps91; go_wp2_with (go_at_call 114; refine H.mono ?_; rintro e w' ⟨rfl, hb'⟩); go_ret; exact ⟨by rw [← hz.out]; rfl, hb'⟩
structure Later (w : World) where
 v : World
 below : Below w.heap.size w v
instance (w : World) : Inhabited (Later w) := ⟨⟨w, Below.refl _ w⟩⟩
theorem wp_region_later {P : Program} {id : Nat} {Q : Exit → Act → World → Prop} {a : Act} {w : World} {l : List Oper} (hm : P.follows .mixedOrders = true) (hB : Region.lexB .any l.toArray = true)
 (h : wpQuiet P l.toArray (fun w' => ∃ p : Later w, w' = p.v) (fun a' => ∀ w', (∃ p : Later w, w' = p.v) → Q .normal a' w') l a) : (Code.region id l.toArray true).wp P Q a w :=
 wp_region_quiet (C := fun w' => ∃ p : Later w, w' = p.v) hm hB ⟨⟨w.drew, (Below.refl _ w).drew⟩, rfl⟩ (by simpa using h)
theorem Later.call {P : Program} {f : FuncId} {args : Array Value} {w : World} {p : Later w} {v : Value}
 (h : Calls P f args p.v fun e w' => e = .returned v ∧ Below p.v.heap.size p.v w') : Calls P f args p.v fun e w'' => e = .returned v ∧ ∃ p' : Later w, w'' = p'.v :=
 h.mono fun e w' ⟨he, hb⟩ => ⟨he, ⟨w', p.below.trans (hb.mono p.below.size)⟩, rfl⟩
theorem Later.callD {P : Program} {f : FuncId} {args : Array Value} {w : World} {p : Later w} {v : Value}
 (h : Calls P f args p.v fun e w' => e = .returned v ∧ Drawn0 p.v w') : Calls P f args p.v fun e w'' => e = .returned v ∧ ∃ p' : Later w, w'' = p'.v :=
 Later.call (h.mono fun e w' ⟨he, n, hn⟩ => ⟨he, by subst hn; exact zC (Below.refl _ _) n⟩)
theorem Later.cell {w : World} {a : Addr} {v : Value} (h : w.cell? a = some v) (p : Later w) : p.v.cell? a = some v := (p.below.cell (World.block_lt_of_cell? w _ h)).trans h
end Go.Proofs.Ytkocahlifffgjaa.P
namespace Go.Proofs.Ytkocahlifffgjaa.P
open Go.RowKit Go.Proofs.YtkocahlifffgjaaW.PrintWords Go.Proofs.YtkocahlifffgjaaW.PrintLast Go.Proofs.YtkocahlifffgjaaW.PrintMore
open Go.Maps (Keyed)
set_option linter.unusedVariables false
set_option linter.unusedSimpArgs false
def asIs (v : Value) : Option (DataW Value × List MemPlace) := some (.held v, [])
section
variable {P : Program} {w : World} {ops : Array Oper} {rest : List Oper} {o : Oper} {a : Act} {Q : Exit → Act → World → Prop}
theorem made_event (hg : o.guard = none) (t k : TypeId) (hop : o.op = Op.makeMap t none)
 (hK : ∀ b, b = w.heap.size → ∀ w', w'.ownsMap P k asIs b 0 (.map []) → w.grownBy w' none → wpList P ops Q rest (a.put o.dst (.map (some b))) w') : wpList P ops Q (o :: rest) a w := by
 refine wpList_plain hg fun K' hK' => ?_
 have hmm := @run_makeMap P; unfold Oper.wp; simp [execOp, hop, hmm, Result.andThen]; exact hK' _ _ (hK _ rfl _ (World.ownsMap_made w P k asIs) (World.grownBy_alloc w _ none))
theorem insert_event (hg : o.guard = none) (m x v : Operand) (t : TypeId) (hop : o.op = Op.insert t m x v)
 (k e : TypeId) (K : Keyed P k) (ht : P.underlying t = some (.map k e)) (b n : Nat) (D : DataW Value)
 (hm : a.eval m = .map (some b)) (hown : w.ownsMap P k asIs b n D) (hn : n < maxLen) (key val : Value) (kl : Lit) (hx : a.eval x = key) (hv : a.eval v = val) (hkey : keyOf P k key = some kl)
 (hK : ∀ w', w'.ownsMap P k asIs b (n + 1) (D.put kl (.held val)) → w.grownBy w' (some b) → wpList P ops Q rest (a.put o.dst undef) w') :
 wpList P ops Q (o :: rest) a w := by
 refine wpList_plain hg fun K' hK' => ?_
 obtain ⟨w', hrun, r1, r2⟩ := hown.update K ht hn hkey (val := val) (d := .held val) (ps := []) rfl; unfold Oper.wp; simp [execOp, hop, hm, hx, hv, hrun, Result.andThen]; exact hK' _ _ (hK w' r1 r2)
end
def two (v3 v2 : Value) : DataW Value := ((DataW.map []).put (.int .i64 3) (.held v3)).put (.int .i64 2) (.held v2)
theorem two_map0 : Maps.IsMap (DataW.map [] : DataW Value) := ⟨[], rfl⟩
theorem two_keys (v3 v2 : Value) (kl : Lit) (h : Maps.has (two v3 v2) kl = true) : kl = .int .i64 3 ∨ kl = .int .i64 2 := by
 by_cases h2 : kl = .int .i64 2
 · exact .inr h2
 · by_cases h3 : kl = .int .i64 3
   · exact .inl h3
   · unfold two at h; rw [Maps.has_put_other h2, Maps.has_put_other h3] at h; cases h
theorem two_at3 (v3 v2 : Value) (z : DataW Value) : (two v3 v2).atKey (.int .i64 3) z = .held v3 := by
 unfold two; rw [Maps.atKey_put_other (fun h => by cases h), Maps.atKey_put_same (k := .int .i64 3) two_map0 trivial]
theorem two_at2 (v3 v2 : Value) (z : DataW Value) : (two v3 v2).atKey (.int .i64 2) z = .held v2 := by
 exact Maps.atKey_put_same (k := .int .i64 2) ⟨_, rfl⟩ trivial _ _
theorem blk_grownM {w w' : World} {row : Option Nat} {g : Nat} {o : Obj} (h : w.heap[g]? = some o) (hg : w.grownBy w' row) (hne : row ≠ some g) : w'.heap[g]? = some o := by
 have hlt : g < w.heap.size := blk_lt h; rw [hg.block g hlt (fun e => hne e.symm)]; exact h
theorem grown_of_below {w w' : World} (h : Below w.heap.size w w') : w.grownBy w' none := ⟨h.os, h.tape, h.output, h.size, fun i hi _ => h.block i hi⟩
theorem below_of_grown {w w' : World} (h : w.grownBy w' none) : Below w.heap.size w w' := (Below.refl _ w).grown h (Nat.le_refl _) (fun k hk => by cases hk)
end Go.Proofs.Ytkocahlifffgjaa.P
namespace Go.Proofs.Ytkocahlifffgjaa.P
open Go.RowKit Go.Proofs.YtkocahlifffgjaaW.PrintWords Go.Proofs.YtkocahlifffgjaaW.PrintLast Go.Proofs.YtkocahlifffgjaaW.PrintMore
set_option linter.unusedVariables false
set_option linter.unusedSimpArgs false
set_option maxHeartbeats 2000000 in
theorem pred_two (w : World) : PredL 92 #[] (fun f => (f.length : Int) != 2) w := fun W x A c hb hc hr => by
 show Calls Try.prog 92 #[.slice A x.length c] W fun e w' => e = .returned (.bool ((x.length : Int) != 2)) ∧ Below W.heap.size W w'
 clear hb hr; generalize x.length = n at hc; go_enter Try.func92, Try.ntmps92; go_wp2; go_ret; exact ⟨rfl, Below.refl _ _⟩
def impl_isBinary.f (a0_0 a0_1 : Int) (l0_2 l0_3 : List (List Int)) (l0_4 : List Int) (l0_5 : List (List Int)) : Option Bool := some (goodB a0_0 a0_1 l0_2 l0_3 l0_4 l0_5)
set_option maxHeartbeats 4000000 in
set_option maxRecDepth 100000 in
theorem impl_isBinary.calls (a0_0 a0_1 : Int) (A0_2 : Option Addr) (c0_2 : Nat) (l0_2 : List (List Int)) (A0_3 : Option Addr) (c0_3 : Nat) (l0_3 : List (List Int)) (A0_4 : Option Addr) (c0_4 : Nat) (l0_4 : List Int) (A0_5 : Option Addr) (c0_5 : Nat) (l0_5 : List (List Int)) (r : Bool) (w : World)
 (hr0_2 : Kd.C (Kd.slice 3 (Kd.int .i64)) w A0_2 l0_2.length l0_2) (hc0_2 : l0_2.length ≤ c0_2) (hr0_3 : Kd.C (Kd.slice 3 (Kd.int .i64)) w A0_3 l0_3.length l0_3) (hc0_3 : l0_3.length ≤ c0_3) (hr0_4 : Kd.C (Kd.int .i64) w A0_4 l0_4.length l0_4) (hc0_4 : l0_4.length ≤ c0_4) (hr0_5 : Kd.C (Kd.slice 3 (Kd.int .i64)) w A0_5 l0_5.length l0_5) (hc0_5 : l0_5.length ≤ c0_5)
 (h : impl_isBinary.f a0_0 a0_1 l0_2 l0_3 l0_4 l0_5 = some r) :
 Calls Try.prog 53 #[.agg #[.int .i64 a0_0, .int .i64 a0_1, .slice A0_2 l0_2.length c0_2, .slice A0_3 l0_3.length c0_3, .slice A0_4 l0_4.length c0_4, .slice A0_5 l0_5.length c0_5]] w fun e w' => e = .returned (.bool r) ∧ Below w.heap.size w w' := by
 have hu := Try.underlying29; obtain rfl := Option.some.inj h; clear h; have hm4 : l0_4.length ≤ 9223372036854775807 := hr0_4.2.1; have hm5 : l0_5.length ≤ 9223372036854775807 := hr0_5.2.1; have hrise := zA (areRising_eq l0_4 a0_0 hm4 (l0_4.length + 1) zz1n); have eg : ∀ args w, (callFunc 92 args).run Try.prog w = .ok (.enter 92 args) w := enters_of Try.func92 zz1j rfl; have HB := zA (Below.refl w.heap.size w); by_cases h1 : 1 ≤ a0_0 ∧ a0_0 ≤ 40
 · have I0 := zA (show impl_in.f a0_0 1 40 = some true by rw [impl_in_eq, decide_eq_true h1]); have H1 := zA h1; by_cases h2 : 1 ≤ a0_1 ∧ a0_1 ≤ 4
   · have I1 := zA (show impl_in.f a0_1 1 4 = some true by rw [impl_in_eq, decide_eq_true h2]); have H2 := zA h2; clear h2; cases h3 : riseF 0 (wrap64 (a0_0 - 1)) none l0_4 with
     | true =>
      have I2 := zA (show impl_areRising.f (l0_4.length + 1) l0_4 a0_0 = some true by rw [hrise.out, h3]); have H3 := zA h3; clear h3 hrise; by_cases h4 : (l0_5.length : Int) ≤ a0_0
      · have d4 : decide (a0_0 < (l0_5.length : Int)) = false := decide_eq_false zz1n; have H4 := zA h4; clear h1 h4; have CF := fun (W : World) (hW : Below w.heap.size w W) => containsFunc_row 92 #[] eg (fun f => (f.length : Int) != 2) A0_5 c0_5 l0_5 W (zS hr0_5 hW) hc0_5 (pred_two W)
        clear hr0_5 eg; cases h5 : l0_5.any fun f => (f.length : Int) != 2 with
        | true =>
         rw [h5] at CF; have J := zA (show goodB a0_0 a0_1 l0_2 l0_3 l0_4 l0_5 = false by unfold goodB; rw [h5]; simp); clear h5 hr0_2 hr0_3; go_enter Try.func53, Try.ntmps53; go_wp2_with (first | ((with_reducible refine gate_dst (N := 1) rfl ?_); refine box_event ?hg (N := 1) ?hd (cs := #[.int .i64 a0_0, .int .i64 a0_1, .slice A0_2 l0_2.length c0_2, .slice A0_3 l0_3.length c0_3, .slice A0_4 l0_4.length c0_4, .slice A0_5 l0_5.length c0_5]) (t := 29) ?hr ?_; (case hd => rfl); (case hg => rfl); (case hr => first | (go_simp; done) | (go_simp; rfl)); intro gb hg w1 hbox hb; have n0_ := zA (zG HB.out hb); have n1_ := zA hbox; clear HB; have HB := n0_; have BK := n1_; have GE := zA (show w.heap.size ≤ gb by rw [hg]; omega); clear n0_ n1_ hb hbox hg; have hx0 : w1.cell? ⟨gb, 0, none⟩ = some (.int .i64 a0_0) := (zK BK.out 0).trans rfl; have hx1 : w1.cell? ⟨gb, 1, none⟩ = some (.int .i64 a0_1) := (zK BK.out 1).trans rfl; have hx2 : w1.cell? ⟨gb, 2, none⟩ = some (.slice A0_2 l0_2.length c0_2) := (zK BK.out 2).trans rfl; have hx3 : w1.cell? ⟨gb, 3, none⟩ = some (.slice A0_3 l0_3.length c0_3) := (zK BK.out 3).trans rfl; have hx4 : w1.cell? ⟨gb, 4, none⟩ = some (.slice A0_4 l0_4.length c0_4) := (zK BK.out 4).trans rfl; have hx5 : w1.cell? ⟨gb, 5, none⟩ = some (.slice A0_5 l0_5.length c0_5) := (zK BK.out 5).trans rfl) | (go_at_call 85; (with_reducible refine (impl_in.calls a0_0 1 40 true _ I0.out).mono ?_); rintro e w' ⟨rfl, ⟨nd, rfl⟩⟩) | (go_at_call 85; (with_reducible refine (impl_in.calls a0_1 1 4 true _ I1.out).mono ?_); rintro e w' ⟨rfl, ⟨nd, rfl⟩⟩) | (go_at_call 61; (with_reducible refine (impl_areRising.calls (l0_4.length + 1) A0_4 c0_4 l0_4 a0_0 true _ (zS hr0_4 (zz0y HB)) hc0_4 I2.out).mono ?_); rintro e w' ⟨rfl, ⟨nd, rfl⟩⟩) | (go_at_call 91; refine (CF _ (zz0y HB)).mono ?_; rintro e w2 ⟨rfl, hb'⟩; have n0_ := zA (zG (zz0y HB) hb'); have n1_ := zA (zM (zz10 BK) hb'); clear HB BK hb' hx0 hx1 hx2 hx3 hx4 hx5; have HB := n0_; have BK := n1_; clear n0_ n1_; have hx0 : w2.cell? ⟨gb, 0, none⟩ = some (.int .i64 a0_0) := (zK BK.out 0).trans rfl; have hx1 : w2.cell? ⟨gb, 1, none⟩ = some (.int .i64 a0_1) := (zK BK.out 1).trans rfl; have hx2 : w2.cell? ⟨gb, 2, none⟩ = some (.slice A0_2 l0_2.length c0_2) := (zK BK.out 2).trans rfl; have hx3 : w2.cell? ⟨gb, 3, none⟩ = some (.slice A0_3 l0_3.length c0_3) := (zK BK.out 3).trans rfl; have hx4 : w2.cell? ⟨gb, 4, none⟩ = some (.slice A0_4 l0_4.length c0_4) := (zK BK.out 4).trans rfl; have hx5 : w2.cell? ⟨gb, 5, none⟩ = some (.slice A0_5 l0_5.length c0_5) := (zK BK.out 5).trans rfl)); go_ret; exact ⟨zz1g J, (zz0y HB)⟩
        | false =>
         rw [h5] at CF; have GB := zA (show goodB a0_0 a0_1 l0_2 l0_3 l0_4 l0_5 = (listsF a0_0 a0_1 3 none l0_2 && listsF a0_0 a0_1 2 none l0_3) by unfold goodB; rw [h5, H3.out, decide_eq_true H1.out, decide_eq_true H2.out, decide_eq_true H4.out]; rfl); clear h5; have HR2 := zA hr0_2; have HR3 := zA hr0_3; have HC2 := zA hc0_2; have HC3 := zA hc0_3; have hm2 : l0_2.length ≤ 9223372036854775807 := hr0_2.2.1; have hm3 : l0_3.length ≤ 9223372036854775807 := hr0_3.2.1; clear hr0_2 hr0_3 hc0_2 hc0_3; go_enter Try.func53, Try.ntmps53
         go_upto_region 3 with (first | ((with_reducible refine gate_dst (N := 1) rfl ?_); refine box_event ?hg (N := 1) ?hd (cs := #[.int .i64 a0_0, .int .i64 a0_1, .slice A0_2 l0_2.length c0_2, .slice A0_3 l0_3.length c0_3, .slice A0_4 l0_4.length c0_4, .slice A0_5 l0_5.length c0_5]) (t := 29) ?hr ?_; (case hd => rfl); (case hg => rfl); (case hr => first | (go_simp; done) | (go_simp; rfl)); intro gb hg w1 hbox hb; have n0_ := zA (zG HB.out hb); have n1_ := zA hbox; clear HB; have HB := n0_; have BK := n1_; have GE := zA (show w.heap.size ≤ gb by rw [hg]; omega); clear n0_ n1_ hb hbox hg; have hx0 : w1.cell? ⟨gb, 0, none⟩ = some (.int .i64 a0_0) := (zK BK.out 0).trans rfl; have hx1 : w1.cell? ⟨gb, 1, none⟩ = some (.int .i64 a0_1) := (zK BK.out 1).trans rfl; have hx2 : w1.cell? ⟨gb, 2, none⟩ = some (.slice A0_2 l0_2.length c0_2) := (zK BK.out 2).trans rfl; have hx3 : w1.cell? ⟨gb, 3, none⟩ = some (.slice A0_3 l0_3.length c0_3) := (zK BK.out 3).trans rfl; have hx4 : w1.cell? ⟨gb, 4, none⟩ = some (.slice A0_4 l0_4.length c0_4) := (zK BK.out 4).trans rfl; have hx5 : w1.cell? ⟨gb, 5, none⟩ = some (.slice A0_5 l0_5.length c0_5) := (zK BK.out 5).trans rfl) | (go_at_call 85; (with_reducible refine (impl_in.calls a0_0 1 40 true _ I0.out).mono ?_); rintro e w' ⟨rfl, ⟨nd, rfl⟩⟩) | (go_at_call 85; (with_reducible refine (impl_in.calls a0_1 1 4 true _ I1.out).mono ?_); rintro e w' ⟨rfl, ⟨nd, rfl⟩⟩) | (go_at_call 61; (with_reducible refine (impl_areRising.calls (l0_4.length + 1) A0_4 c0_4 l0_4 a0_0 true _ (zS hr0_4 (zz0y HB)) hc0_4 I2.out).mono ?_); rintro e w' ⟨rfl, ⟨nd, rfl⟩⟩) | (go_at_call 91; refine (CF _ (zz0y HB)).mono ?_; rintro e w2 ⟨rfl, hb'⟩; have n0_ := zA (zG (zz0y HB) hb'); have n1_ := zA (zM (zz10 BK) hb'); clear HB BK hb' hx0 hx1 hx2 hx3 hx4 hx5; have HB := n0_; have BK := n1_; clear n0_ n1_; have hx0 : w2.cell? ⟨gb, 0, none⟩ = some (.int .i64 a0_0) := (zK BK.out 0).trans rfl; have hx1 : w2.cell? ⟨gb, 1, none⟩ = some (.int .i64 a0_1) := (zK BK.out 1).trans rfl; have hx2 : w2.cell? ⟨gb, 2, none⟩ = some (.slice A0_2 l0_2.length c0_2) := (zK BK.out 2).trans rfl; have hx3 : w2.cell? ⟨gb, 3, none⟩ = some (.slice A0_3 l0_3.length c0_3) := (zK BK.out 3).trans rfl; have hx4 : w2.cell? ⟨gb, 4, none⟩ = some (.slice A0_4 l0_4.length c0_4) := (zK BK.out 4).trans rfl; have hx5 : w2.cell? ⟨gb, 5, none⟩ = some (.slice A0_5 l0_5.length c0_5) := (zK BK.out 5).trans rfl))
         clear CF d4; have tok0 : True := trivial; go_wp2_with (first | (have _t := tok0; (with_reducible refine made_event rfl 96 3 rfl ?_); intro bm hbm w3 hown hgr; clear tok0; have NE := zA (show bm ≠ gb by rw [hbm]; exact Nat.ne_of_gt (blk_lt BK.out)); have GM := zA (show w.heap.size ≤ bm by rw [hbm]; exact zF HB.out); have n0_ := zA (blk_grownM BK.out hgr (by intro h_; cases h_)); have n1_ := zA (HB.out.grown hgr (zF HB.out) (fun k hk => by cases hk)); clear BK HB hgr hbm hx0 hx1 hx2 hx3 hx4 hx5; have BK := n0_; have HB := n1_; clear n0_ n1_; have OW := zA hown; clear hown; have tok1 : True := trivial; have hx0 : w3.cell? ⟨gb, 0, none⟩ = some (.int .i64 a0_0) := (zK BK.out 0).trans rfl; have hx1 : w3.cell? ⟨gb, 1, none⟩ = some (.int .i64 a0_1) := (zK BK.out 1).trans rfl; have hx2 : w3.cell? ⟨gb, 2, none⟩ = some (.slice A0_2 l0_2.length c0_2) := (zK BK.out 2).trans rfl; have hx3 : w3.cell? ⟨gb, 3, none⟩ = some (.slice A0_3 l0_3.length c0_3) := (zK BK.out 3).trans rfl; have hx4 : w3.cell? ⟨gb, 4, none⟩ = some (.slice A0_4 l0_4.length c0_4) := (zK BK.out 4).trans rfl; have hx5 : w3.cell? ⟨gb, 5, none⟩ = some (.slice A0_5 l0_5.length c0_5) := (zK BK.out 5).trans rfl) | (have _t := tok1; (with_reducible refine insert_event rfl _ _ _ 96 rfl 3 22 (Go.Maps.int_keyed Try.underlying3) Try.underlying96 bm 0 (.map []) rfl OW.out ?hn (.int .i64 3) (.slice A0_2 l0_2.length c0_2) (.int .i64 3) rfl rfl ?hk ?_); (case hn => decide); (case hk => exact Go.Maps.keyOf_int_mk Try.underlying3 zz1m); intro w4 hown hgr; clear tok1 OW; have n0_ := zA (blk_grownM BK.out hgr (fun h_ => NE.out (Option.some.inj h_))); have n1_ := zA (HB.out.grown hgr (zF HB.out) (fun k hk => by cases hk; exact GM.out)); clear BK HB hgr hx0 hx1 hx2 hx3 hx4 hx5; have BK := n0_; have HB := n1_; clear n0_ n1_; have OW := zA hown; clear hown; have tok2 : True := trivial; have hx0 : w4.cell? ⟨gb, 0, none⟩ = some (.int .i64 a0_0) := (zK BK.out 0).trans rfl; have hx1 : w4.cell? ⟨gb, 1, none⟩ = some (.int .i64 a0_1) := (zK BK.out 1).trans rfl; have hx2 : w4.cell? ⟨gb, 2, none⟩ = some (.slice A0_2 l0_2.length c0_2) := (zK BK.out 2).trans rfl; have hx3 : w4.cell? ⟨gb, 3, none⟩ = some (.slice A0_3 l0_3.length c0_3) := (zK BK.out 3).trans rfl; have hx4 : w4.cell? ⟨gb, 4, none⟩ = some (.slice A0_4 l0_4.length c0_4) := (zK BK.out 4).trans rfl; have hx5 : w4.cell? ⟨gb, 5, none⟩ = some (.slice A0_5 l0_5.length c0_5) := (zK BK.out 5).trans rfl) | (have _t := tok2; (with_reducible refine insert_event rfl _ _ _ 96 rfl 3 22 (Go.Maps.int_keyed Try.underlying3) Try.underlying96 bm 1 ((DataW.map []).put (.int .i64 3) (.held (.slice A0_2 l0_2.length c0_2))) rfl OW.out ?hn (.int .i64 2) (.slice A0_3 l0_3.length c0_3) (.int .i64 2) rfl rfl ?hk ?_); (case hn => decide); (case hk => exact Go.Maps.keyOf_int_mk Try.underlying3 zz1m); intro w5 hown hgr; clear tok2 OW; have n0_ := zA (blk_grownM BK.out hgr (fun h_ => NE.out (Option.some.inj h_))); have n1_ := zA (HB.out.grown hgr (zF HB.out) (fun k hk => by cases hk; exact GM.out)); clear BK HB hgr hx0 hx1 hx2 hx3 hx4 hx5; have BK := n0_; have HB := n1_; clear n0_ n1_; have OW := zA hown; clear hown; have tok3 : True := trivial; have hx0 : w5.cell? ⟨gb, 0, none⟩ = some (.int .i64 a0_0) := (zK BK.out 0).trans rfl; have hx1 : w5.cell? ⟨gb, 1, none⟩ = some (.int .i64 a0_1) := (zK BK.out 1).trans rfl; have hx2 : w5.cell? ⟨gb, 2, none⟩ = some (.slice A0_2 l0_2.length c0_2) := (zK BK.out 2).trans rfl; have hx3 : w5.cell? ⟨gb, 3, none⟩ = some (.slice A0_3 l0_3.length c0_3) := (zK BK.out 3).trans rfl; have hx4 : w5.cell? ⟨gb, 4, none⟩ = some (.slice A0_4 l0_4.length c0_4) := (zK BK.out 4).trans rfl; have hx5 : w5.cell? ⟨gb, 5, none⟩ = some (.slice A0_5 l0_5.length c0_5) := (zK BK.out 5).trans rfl) | (have _t := tok3; at_range; refine wpList_range_own _ rfl _ 96 rfl 3 22 (Go.Maps.int_keyed Try.underlying3) Try.underlying96 asIs bm 2 (two (.slice A0_2 l0_2.length c0_2) (.slice A0_3 l0_3.length c0_3)) rfl OW.out ?_; intro w6 hrg0 hg0 hs0; clear tok3) | go_in)
         go_frame
         have NR := zA (show w5.heap.size ≠ gb from Nat.ne_of_gt (blk_lt BK.out)); have n0_ := zA (blk_grownM BK.out hg0 (by intro h_; cases h_)); have n1_ := zA (HB.out.grown hg0 (zF HB.out) (fun k hk => by cases hk)); have GR := zA (zF HB.out); clear BK HB hg0 hs0 OW hx0 hx1 hx2 hx3 hx4 hx5; have BK := n0_; have HB := n1_; clear n0_ n1_; generalize w5.heap.size = rr at hrg0 NR GR; go_loopg [45] 2 (fun gg _ wr => ∃ (left : Lit → Bool) (cnt : Nat), wr.ranges Try.prog 3 asIs bm rr 2 (two (.slice A0_2 l0_2.length c0_2) (.slice A0_3 l0_3.length c0_3)) left cnt ∧ cnt ≤ gg ∧ Aside0 (∀ kl, left kl = true → kl = .int .i64 3 ∨ kl = .int .i64 2) ∧ Aside0 (left (.int .i64 3) = false → listsF a0_0 a0_1 3 none l0_2 = true) ∧ Aside0 (left (.int .i64 2) = false → listsF a0_0 a0_1 2 none l0_3 = true) ∧ Aside0 (wr.heap[gb]? = some (.cells #[.int .i64 a0_0, .int .i64 a0_1, .slice A0_2 l0_2.length c0_2, .slice A0_3 l0_3.length c0_3, .slice A0_4 l0_4.length c0_4, .slice A0_5 l0_5.length c0_5] 29 (0, 0))) ∧ Aside0 (Below w.heap.size w wr))
         case atStart => exact ⟨_, _, hrg0, by have := hrg0.owns.size_le; simpa using this, ⟨fun kl h => two_keys _ _ kl h⟩, ⟨fun h => by cases h⟩, ⟨fun h => by cases h⟩, BK, HB⟩
         case round =>
          clear hrg0 BK HB; obtain ⟨left, cnt, hrg, hcnt, SUB, D3, D2, BK, HB⟩ := hrel; have HRG := zA hrg; clear hrg; go_wp2_with (first | (at_next; refine wpList_next_ranges _ rfl _ rfl 3 (Go.Maps.int_keyed Try.underlying3) asIs (Value.int .i64) (fun v_ : Value => v_) ?hik ?hiv bm rr 2 (two (.slice A0_2 l0_2.length c0_2) (.slice A0_3 l0_3.length c0_3)) left cnt rfl HRG.out ?_ ?_) | go_in)
          case hik => exact fun key kl hk => by obtain ⟨x, h, _⟩ := Go.Maps.keyOf_int_inv Try.underlying3 hk; exact ⟨x, h⟩
          case hiv => exact fun v y _ => ⟨v, rfl⟩
          · intro hc0 hl0; have E3 := zA (D3.out (hl0 _)); have E2 := zA (D2.out (hl0 _)); clear hl0; go_wp2; go_ret; exact ⟨by rw [GB.out, E3.out, E2.out]; rfl, HB.out⟩
          · intro x c kl ya yb w1 cnt1 hkey hlk hv hat hrg1 hlt hg1 hs1 hen; obtain ⟨x', ex', ekl, hwx⟩ := Go.Maps.keyOf_int_inv Try.underlying3 hkey; cases ex'; have hyc : ya = .held c := (congrArg Prod.fst (Option.some.inj hv)).symm; have hat2 := hat (.held c); rw [hyc] at hat2; have key : ∃ (A : Option Addr) (cl : Nat) (l : List (List Int)), c = .slice A l.length cl ∧ Kd.C (Kd.slice 3 (Kd.int .i64)) w A l.length l ∧ l.length ≤ cl ∧ (listsF a0_0 a0_1 x none l = false → goodB a0_0 a0_1 l0_2 l0_3 l0_4 l0_5 = false) ∧ (listsF a0_0 a0_1 x none l = true → ((left (.int .i64 3) && !(Lit.int .i64 3).sameKey kl) = false → listsF a0_0 a0_1 3 none l0_2 = true) ∧ ((left (.int .i64 2) && !(Lit.int .i64 2).sameKey kl) = false → listsF a0_0 a0_1 2 none l0_3 = true)) := by
             rcases SUB.out kl hlk with h_ | h_
             · rw [h_] at ekl hat2 ⊢; rw [two_at3] at hat2; injection ekl with _ ex; injection hat2 with hc_; refine ⟨A0_2, c0_2, l0_2, hc_.symm, HR2.out, HC2.out, fun h => by rw [GB.out]; rw [← ex] at h; rw [h, Bool.false_and], fun h => ⟨fun _ => by rw [ex]; exact h, fun h2 => D2.out (by simpa [Lit.sameKey] using h2)⟩⟩
             · rw [h_] at ekl hat2 ⊢; rw [two_at2] at hat2; injection ekl with _ ex; injection hat2 with hc_; refine ⟨A0_3, c0_3, l0_3, hc_.symm, HR3.out, HC3.out, fun h => by rw [GB.out]; rw [← ex] at h; rw [h, Bool.and_false], fun h => ⟨fun h2 => D3.out (by simpa [Lit.sameKey] using h2), fun _ => by rw [ex]; exact h⟩⟩
            obtain ⟨A, cl, l, hc, hrl, hcl, hno, hyes⟩ := key; subst hc; have NO := zA hno; have YES := zA hyes; have HRL := zA hrl; have HRG1 := zA hrg1; have SUB1 := zA (show ∀ z, (left z && !z.sameKey kl) = true → z = .int .i64 3 ∨ z = .int .i64 2 from fun z hz => SUB.out z (by rw [Bool.and_eq_true] at hz; exact hz.1)); have SUBX := zA (show x = 3 ∨ x = 2 by rcases SUB.out kl hlk with h_ | h_ <;> (rw [h_] at ekl; injection ekl with _ ex; omega)); have hml : l.length ≤ 9223372036854775807 := hrl.2.1; have n0_ := zA (blk_grownM BK.out hg1 (fun h_ => NR.out (Option.some.inj h_))); have n1_ := zA (HB.out.grown hg1 (zF HB.out) (fun k hk => by cases hk; exact GR.out)); clear hno hyes hrl hrg1 SUB D3 D2 HRG hkey hlk hv hat hat2 hyc hwx hg1 hs1 BK HB ekl; have BK := n0_; have HB := n1_; clear n0_ n1_; go_wp2; go_loopg [52] l.length (fun gg s52 wr => ∃ kk : Nat, kk ≤ l.length ∧ l.length - kk ≤ gg ∧ s52 = .int .i64 kk ∧ Aside0 (listsF a0_0 a0_1 x none l = listsF a0_0 a0_1 x (prevL l kk) (l.drop kk)) ∧ Aside0 (wr.heap[gb]? = some (.cells #[.int .i64 a0_0, .int .i64 a0_1, .slice A0_2 l0_2.length c0_2, .slice A0_3 l0_3.length c0_3, .slice A0_4 l0_4.length c0_4, .slice A0_5 l0_5.length c0_5] 29 (0, 0))) ∧ Aside0 (Below w1.heap.size w1 wr) ∧ Aside0 (Below w.heap.size w wr))
            case atStart => exact ⟨0, Nat.zero_le _, zz1n, rfl, ⟨rfl⟩, BK, ⟨Below.refl _ _⟩, HB⟩
            case round =>
             clear BK HB hen; obtain ⟨kk, hkk, hg, rfl, R, BK, B1, HB⟩ := hrel; by_cases hlt : kk < l.length
             · have hd : decide (kk < l.length) = true := decide_eq_true hlt; obtain ⟨ad, A1, c1, e, hx0, hl1, hi1⟩ := at_L1 HRL.out (kk : Int) zz1n zz1n; subst e; have hx1 : wr.cell? (ad.add kk) = some (.slice A1 (rd_L1 l kk).length c1) := (HB.out.cell (World.block_lt_of_cell? w _ zz1f)).trans zz1f; have OKD := zA (show listsF a0_0 a0_1 x (prevL l kk) (l.drop kk) = (rowOk a0_0 a0_1 x (rd_L1 l kk) && ((match prevL l kk with | none => true | some z => decide (cmpL z (rd_L1 l kk) < 0)) && listsF a0_0 a0_1 x (prevL l (kk + 1)) (l.drop (kk + 1)))) by rw [getD_drop l kk [] hlt]; cases kk <;> rfl); have HI := zA (zS hi1 HB.out); have HL := zA hl1; have hmy : (rd_L1 l kk).length ≤ 9223372036854775807 := hi1.2.1; have L := zA hlt; have PRV := zA (show ∀ m, kk = m + 1 → prevL l kk = some (rd_L1 l m) from fun m hm => by rw [hm]; rfl); clear hx0 hi1 hl1; generalize rd_L1 l kk = y at hx1 OKD HI HL hmy
               go_upto_region 9 with fail
               have q0 := Later.cell (w := wr) (a := ⟨gb, 0, none⟩) (v := .int .i64 a0_0) ((zK BK.out 0).trans rfl); have q1 := Later.cell (w := wr) (a := ⟨gb, 1, none⟩) (v := .int .i64 a0_1) ((zK BK.out 1).trans rfl); clear hx1; by_cases h1 : (y.length : Int) = x
               · have e1 : ((y.length : Int) != x) = false := by rw [h1]; simp
                 have hpos : 0 < y.length := by rcases SUBX.out with h_ | h_ <;> omega
                 obtain ⟨ay, e, hy0⟩ := Kd.at_int HI.out 0 zz1n zz1n; subst e; rw [show ((0 : Int)).toNat = 0 from rfl, Addr.add_zero'] at hy0; have q2 := Later.cell hy0; have hlp : (0 < y.length) = True := eq_true hpos; clear hy0; have H1x := zA h1; clear h1; by_cases h2 : 0 ≤ rd y 0 ∧ rd y 0 ≤ wrap64 (a0_0 - 1)
                 · have J1 := zA (show impl_in.f (rd y 0) 0 (wrap64 (a0_0 - 1)) = some true by rw [impl_in_eq, decide_eq_true h2]); have H2x := zA h2; clear h2; obtain ⟨i0, hi0, _, hsz0, _⟩ := info_parts info3; have hcut0 := cut_from (P := Try.prog) 23 3 .i64 Try.underlying23 hi0 1 hsz0 (some ay) y.length c1 1 zz1n zz1n; have HI90 := Kd.C_drop (m := 1) HI.out zz1n HL.out; obtain ⟨A9, hA9⟩ : ∃ A9 : Option Addr, A9 = (if c1 = 1 then some ay else (some ay).map (·.add (1 * 1))) := ⟨_, rfl⟩
                   have hcut : ∀ W : World, (Instr.slice 23 (.slice (some ay) y.length c1) (some (.int .i64 1)) none none).run Try.prog W = .ok (.slice A9 (y.length - 1) (c1 - 1)) W := fun W => by rw [hcut0 W, hA9]; rfl
                   have HI9 := zA (show Kd.C (Kd.int .i64) wr A9 (y.drop 1).length (y.drop 1) by rw [hA9]; exact HI90); have HL9 := zA (show (y.drop 1).length ≤ c1 - 1 by rw [List.length_drop]; have := HL.out; omega); clear hcut0 HI90 hA9 hi0 hsz0; cases h3 : (y.drop 1).any fun x => !symB a0_0 a0_1 x with
                   | true =>
                    have J3 := zA (show impl_areSymbols.f (y.drop 1) a0_0 a0_1 = some false by unfold impl_areSymbols.f; rw [h3]; rfl); have SY := fun (W : World) (hW : Below wr.heap.size wr W) => impl_areSymbols.calls A9 (c1 - 1) (y.drop 1) a0_0 a0_1 false W (zS HI9.out hW) HL9.out J3.out
                    rw [List.length_drop] at SY; have W3 := zA (show rowOk a0_0 a0_1 x y = false by unfold rowOk; rw [h3]; simp); clear h3; refine wp_region_later zz1j zz1j ?_; (repeat (go_big_quiet_step (first | (go_at_call 85; with_reducible exact Later.callD (impl_in.calls (rd y 0) 0 (wrap64 (a0_0 - 1)) true _ J1.out)) | (go_at_call 93; with_reducible exact Later.call (SY _ (Later.below _)))))); refine wpQuiet_nil ?_; intro w4_ hw4; obtain ⟨⟨w4, hb4⟩, hw4⟩ := hw4; subst hw4; (try dsimp only); have B4 := zA hb4; clear hb4; have J4 := zA (NO.out (by rw [R.out, OKD.out]; rw [W3.out, Bool.false_and])); clear q0 q1 hd; go_wp2; go_ret; exact ⟨zz1g J4, zG HB.out B4.out⟩
                   | false =>
                    have J3 := zA (show impl_areSymbols.f (y.drop 1) a0_0 a0_1 = some true by unfold impl_areSymbols.f; rw [h3]; rfl); have SY := fun (W : World) (hW : Below wr.heap.size wr W) => impl_areSymbols.calls A9 (c1 - 1) (y.drop 1) a0_0 a0_1 true W (zS HI9.out hW) HL9.out J3.out
                    rw [List.length_drop] at SY; have W3 := zA (show rowOk a0_0 a0_1 x y = true by unfold rowOk; rw [h3, decide_eq_true H1x.out, decide_eq_true H2x.out]; rfl); clear h3; cases kk with
                    | zero =>
                     refine wp_region_later zz1j zz1j ?_; (repeat (go_big_quiet_step (first | (go_at_call 85; with_reducible exact Later.callD (impl_in.calls (rd y 0) 0 (wrap64 (a0_0 - 1)) true _ J1.out)) | (go_at_call 93; with_reducible exact Later.call (SY _ (Later.below _)))))); refine wpQuiet_nil ?_; intro w4_ hw4; obtain ⟨⟨w4, hb4⟩, hw4⟩ := hw4; subst hw4; (try dsimp only); have B4 := zA hb4; clear hb4; have J5 := zA (show listsF a0_0 a0_1 x none l = listsF a0_0 a0_1 x (prevL l (0 + 1)) (l.drop (0 + 1)) by rw [R.out, OKD.out]; rw [W3.out]; rfl); clear q0 q1 hd; go_wp2
                     go_roundg (l.length - (0 + 1))
                     case measure => have := L.out; omega
                     case rel => exact ⟨0 + 1, zz1e L, zz1n, zz1l, J5, ⟨zM BK.out B4.out⟩, ⟨zG B1.out B4.out⟩, ⟨zG HB.out B4.out⟩⟩
                    | succ m =>
                     obtain ⟨ad2, A8, c8, e, hz0, hl8, hi8⟩ := at_L1 HRL.out (m : Int) zz1n zz1n; cases e; have q3 := Later.cell (w := wr) (a := ad.add m) (v := .slice A8 (rd_L1 l m).length c8) ((HB.out.cell (World.block_lt_of_cell? w _ (by simpa using hz0))).trans (by simpa using hz0)); have HZ := zA (zS hi8 HB.out); have HZL := zA hl8; have hmz := zA hi8.2.1; have PV2 := zA (PRV.out m rfl); rw [PV2.out] at OKD; clear hz0 hl8 hi8 PRV; generalize rd_L1 l m = z at q3 HZ HZL hmz OKD PV2; have OK2 := zA (show listsF a0_0 a0_1 x (some z) (l.drop (m + 1)) = (rowOk a0_0 a0_1 x y && (decide (cmpL z y < 0) && listsF a0_0 a0_1 x (prevL l (m + 1 + 1)) (l.drop (m + 1 + 1)))) from OKD.out); clear OKD; have OKD := OK2; clear OK2; have J6 := zA (compare_eq z y hmz.out (z.length + 1) zz1n); by_cases h4 : cmpL z y < 0
                     · have e4 : decide (0 ≤ cmpL z y) = false := decide_eq_false zz1n; have W4 := zA (decide_eq_true h4); clear h4; generalize cmpL z y = cz at J6 e4 W4 OKD; have CM := fun (W : World) (hW : Below wr.heap.size wr W) => slices_Compare_int_int.calls (z.length + 1) A8 c8 z (some ay) c1 y cz W (zS HZ.out hW) HZL.out (zS HI.out hW) HL.out J6.out
                       refine wp_region_later zz1j zz1j ?_; (repeat (go_big_quiet_step (first | (go_at_call 85; with_reducible exact Later.callD (impl_in.calls (rd y 0) 0 (wrap64 (a0_0 - 1)) true _ J1.out)) | (go_at_call 93; with_reducible exact Later.call (SY _ (Later.below _))) | (go_at_call 94; with_reducible exact Later.callD (CM _ (Later.below _)))))); refine wpQuiet_nil ?_; intro w4_ hw4; obtain ⟨⟨w4, hb4⟩, hw4⟩ := hw4; subst hw4; (try dsimp only); have B4 := zA hb4; clear hb4; have J5 := zA (show listsF a0_0 a0_1 x none l = listsF a0_0 a0_1 x (prevL l (m + 1 + 1)) (l.drop (m + 1 + 1)) by rw [R.out, PV2.out, OKD.out]; rw [W3.out, W4.out]; rfl); clear q0 q1 hd; go_wp2
                       go_roundg (l.length - (m + 1 + 1))
                       case measure => have := L.out; omega
                       case rel => exact ⟨m + 1 + 1, zz1e L, zz1n, zz1l, J5, ⟨zM BK.out B4.out⟩, ⟨zG B1.out B4.out⟩, ⟨zG HB.out B4.out⟩⟩
                     · have e4 : decide (0 ≤ cmpL z y) = true := decide_eq_true zz1n; have W4 := zA (decide_eq_false h4); clear h4; generalize cmpL z y = cz at J6 e4 W4 OKD; have CM := fun (W : World) (hW : Below wr.heap.size wr W) => slices_Compare_int_int.calls (z.length + 1) A8 c8 z (some ay) c1 y cz W (zS HZ.out hW) HZL.out (zS HI.out hW) HL.out J6.out
                       refine wp_region_later zz1j zz1j ?_; (repeat (go_big_quiet_step (first | (go_at_call 85; with_reducible exact Later.callD (impl_in.calls (rd y 0) 0 (wrap64 (a0_0 - 1)) true _ J1.out)) | (go_at_call 93; with_reducible exact Later.call (SY _ (Later.below _))) | (go_at_call 94; with_reducible exact Later.callD (CM _ (Later.below _)))))); refine wpQuiet_nil ?_; intro w4_ hw4; obtain ⟨⟨w4, hb4⟩, hw4⟩ := hw4; subst hw4; (try dsimp only); have B4 := zA hb4; clear hb4; have J4 := zA (NO.out (by rw [R.out, PV2.out, OKD.out]; rw [W4.out, Bool.false_and, Bool.and_false])); clear q0 q1 hd; go_wp2; go_ret; exact ⟨zz1g J4, zG HB.out B4.out⟩
                 · have J1 := zA (show impl_in.f (rd y 0) 0 (wrap64 (a0_0 - 1)) = some false by rw [impl_in_eq, decide_eq_false h2]); have W3 := zA (show rowOk a0_0 a0_1 x y = false by unfold rowOk; rw [decide_eq_false h2]; simp); clear h2; refine wp_region_later zz1j zz1j ?_; (repeat (go_big_quiet_step (first | (go_at_call 85; with_reducible exact Later.callD (impl_in.calls (rd y 0) 0 (wrap64 (a0_0 - 1)) false _ J1.out))))); refine wpQuiet_nil ?_; intro w4_ hw4; obtain ⟨⟨w4, hb4⟩, hw4⟩ := hw4; subst hw4; (try dsimp only); have B4 := zA hb4; clear hb4; have J4 := zA (NO.out (by rw [R.out, OKD.out]; rw [W3.out, Bool.false_and])); clear q0 q1 hd; go_wp2; go_ret; exact ⟨zz1g J4, zG HB.out B4.out⟩
               · have e1 : ((y.length : Int) != x) = true := by simpa using h1
                 have W3 := zA (show rowOk a0_0 a0_1 x y = false by unfold rowOk; rw [decide_eq_false h1]; simp); clear h1; refine wp_region_later zz1j zz1j ?_; (repeat (go_big_quiet_step (fail))); refine wpQuiet_nil ?_; intro w4_ hw4; obtain ⟨⟨w4, hb4⟩, hw4⟩ := hw4; subst hw4; (try dsimp only); have B4 := zA hb4; clear hb4; have J4 := zA (NO.out (by rw [R.out, OKD.out]; rw [W3.out, Bool.false_and])); clear q0 q1 hd; go_wp2; go_ret; exact ⟨zz1g J4, zG HB.out B4.out⟩
             · have hd : decide (kk < l.length) = false := decide_eq_false hlt; have FIN := zA (YES.out (by rw [R.out, List.drop_of_length_le zz1n]; cases kk <;> rfl)); clear hlt; go_wp2
               go_roundg cnt1
               case measure => omega
               case rel => exact ⟨_, cnt1, HRG1.out.kept (grown_of_below B1.out) zz1o zz1o, Nat.le_refl _, SUB1, ⟨FIN.out.1⟩, ⟨FIN.out.2⟩, BK, HB⟩
      · have d4 : decide (a0_0 < (l0_5.length : Int)) = true := decide_eq_true zz1n; have J := zA (show goodB a0_0 a0_1 l0_2 l0_3 l0_4 l0_5 = false by unfold goodB; rw [decide_eq_false h4]; simp); (try clear hr0_2 hr0_3 hrise eg); go_enter Try.func53, Try.ntmps53; go_wp2_with (first | ((with_reducible refine gate_dst (N := 1) rfl ?_); refine box_event ?hg (N := 1) ?hd (cs := #[.int .i64 a0_0, .int .i64 a0_1, .slice A0_2 l0_2.length c0_2, .slice A0_3 l0_3.length c0_3, .slice A0_4 l0_4.length c0_4, .slice A0_5 l0_5.length c0_5]) (t := 29) ?hr ?_; (case hd => rfl); (case hg => rfl); (case hr => first | (go_simp; done) | (go_simp; rfl)); intro gb hg w1 hbox hb; have n0_ := zA (zG HB.out hb); have n1_ := zA hbox; clear HB; have HB := n0_; have BK := n1_; have GE := zA (show w.heap.size ≤ gb by rw [hg]; omega); clear n0_ n1_ hb hbox hg; have hx0 : w1.cell? ⟨gb, 0, none⟩ = some (.int .i64 a0_0) := (zK BK.out 0).trans rfl; have hx1 : w1.cell? ⟨gb, 1, none⟩ = some (.int .i64 a0_1) := (zK BK.out 1).trans rfl; have hx2 : w1.cell? ⟨gb, 2, none⟩ = some (.slice A0_2 l0_2.length c0_2) := (zK BK.out 2).trans rfl; have hx3 : w1.cell? ⟨gb, 3, none⟩ = some (.slice A0_3 l0_3.length c0_3) := (zK BK.out 3).trans rfl; have hx4 : w1.cell? ⟨gb, 4, none⟩ = some (.slice A0_4 l0_4.length c0_4) := (zK BK.out 4).trans rfl; have hx5 : w1.cell? ⟨gb, 5, none⟩ = some (.slice A0_5 l0_5.length c0_5) := (zK BK.out 5).trans rfl) | (go_at_call 85; (with_reducible refine (impl_in.calls a0_0 1 40 true _ I0.out).mono ?_); rintro e w' ⟨rfl, ⟨nd, rfl⟩⟩) | (go_at_call 85; (with_reducible refine (impl_in.calls a0_1 1 4 true _ I1.out).mono ?_); rintro e w' ⟨rfl, ⟨nd, rfl⟩⟩) | (go_at_call 61; (with_reducible refine (impl_areRising.calls (l0_4.length + 1) A0_4 c0_4 l0_4 a0_0 true _ (zS hr0_4 (zz0y HB)) hc0_4 I2.out).mono ?_); rintro e w' ⟨rfl, ⟨nd, rfl⟩⟩)); go_ret; exact ⟨zz1g J, (zz0y HB)⟩
     | false =>
      have I2 := zA (show impl_areRising.f (l0_4.length + 1) l0_4 a0_0 = some false by rw [hrise.out, h3]); have J := zA (show goodB a0_0 a0_1 l0_2 l0_3 l0_4 l0_5 = false by unfold goodB; rw [h3]; simp); (try clear hr0_2 hr0_3 hrise eg); go_enter Try.func53, Try.ntmps53; go_wp2_with (first | ((with_reducible refine gate_dst (N := 1) rfl ?_); refine box_event ?hg (N := 1) ?hd (cs := #[.int .i64 a0_0, .int .i64 a0_1, .slice A0_2 l0_2.length c0_2, .slice A0_3 l0_3.length c0_3, .slice A0_4 l0_4.length c0_4, .slice A0_5 l0_5.length c0_5]) (t := 29) ?hr ?_; (case hd => rfl); (case hg => rfl); (case hr => first | (go_simp; done) | (go_simp; rfl)); intro gb hg w1 hbox hb; have n0_ := zA (zG HB.out hb); have n1_ := zA hbox; clear HB; have HB := n0_; have BK := n1_; have GE := zA (show w.heap.size ≤ gb by rw [hg]; omega); clear n0_ n1_ hb hbox hg; have hx0 : w1.cell? ⟨gb, 0, none⟩ = some (.int .i64 a0_0) := (zK BK.out 0).trans rfl; have hx1 : w1.cell? ⟨gb, 1, none⟩ = some (.int .i64 a0_1) := (zK BK.out 1).trans rfl; have hx2 : w1.cell? ⟨gb, 2, none⟩ = some (.slice A0_2 l0_2.length c0_2) := (zK BK.out 2).trans rfl; have hx3 : w1.cell? ⟨gb, 3, none⟩ = some (.slice A0_3 l0_3.length c0_3) := (zK BK.out 3).trans rfl; have hx4 : w1.cell? ⟨gb, 4, none⟩ = some (.slice A0_4 l0_4.length c0_4) := (zK BK.out 4).trans rfl; have hx5 : w1.cell? ⟨gb, 5, none⟩ = some (.slice A0_5 l0_5.length c0_5) := (zK BK.out 5).trans rfl) | (go_at_call 85; (with_reducible refine (impl_in.calls a0_0 1 40 true _ I0.out).mono ?_); rintro e w' ⟨rfl, ⟨nd, rfl⟩⟩) | (go_at_call 85; (with_reducible refine (impl_in.calls a0_1 1 4 true _ I1.out).mono ?_); rintro e w' ⟨rfl, ⟨nd, rfl⟩⟩) | (go_at_call 61; (with_reducible refine (impl_areRising.calls (l0_4.length + 1) A0_4 c0_4 l0_4 a0_0 false _ (zS hr0_4 (zz0y HB)) hc0_4 I2.out).mono ?_); rintro e w' ⟨rfl, ⟨nd, rfl⟩⟩)); go_ret; exact ⟨zz1g J, (zz0y HB)⟩
   · have I1 := zA (show impl_in.f a0_1 1 4 = some false by rw [impl_in_eq, decide_eq_false h2]); have J := zA (show goodB a0_0 a0_1 l0_2 l0_3 l0_4 l0_5 = false by unfold goodB; rw [decide_eq_false h2]; simp); (try clear hr0_2 hr0_3 hrise eg); go_enter Try.func53, Try.ntmps53; go_wp2_with (first | ((with_reducible refine gate_dst (N := 1) rfl ?_); refine box_event ?hg (N := 1) ?hd (cs := #[.int .i64 a0_0, .int .i64 a0_1, .slice A0_2 l0_2.length c0_2, .slice A0_3 l0_3.length c0_3, .slice A0_4 l0_4.length c0_4, .slice A0_5 l0_5.length c0_5]) (t := 29) ?hr ?_; (case hd => rfl); (case hg => rfl); (case hr => first | (go_simp; done) | (go_simp; rfl)); intro gb hg w1 hbox hb; have n0_ := zA (zG HB.out hb); have n1_ := zA hbox; clear HB; have HB := n0_; have BK := n1_; have GE := zA (show w.heap.size ≤ gb by rw [hg]; omega); clear n0_ n1_ hb hbox hg; have hx0 : w1.cell? ⟨gb, 0, none⟩ = some (.int .i64 a0_0) := (zK BK.out 0).trans rfl; have hx1 : w1.cell? ⟨gb, 1, none⟩ = some (.int .i64 a0_1) := (zK BK.out 1).trans rfl; have hx2 : w1.cell? ⟨gb, 2, none⟩ = some (.slice A0_2 l0_2.length c0_2) := (zK BK.out 2).trans rfl; have hx3 : w1.cell? ⟨gb, 3, none⟩ = some (.slice A0_3 l0_3.length c0_3) := (zK BK.out 3).trans rfl; have hx4 : w1.cell? ⟨gb, 4, none⟩ = some (.slice A0_4 l0_4.length c0_4) := (zK BK.out 4).trans rfl; have hx5 : w1.cell? ⟨gb, 5, none⟩ = some (.slice A0_5 l0_5.length c0_5) := (zK BK.out 5).trans rfl) | (go_at_call 85; (with_reducible refine (impl_in.calls a0_0 1 40 true _ I0.out).mono ?_); rintro e w' ⟨rfl, ⟨nd, rfl⟩⟩) | (go_at_call 85; (with_reducible refine (impl_in.calls a0_1 1 4 false _ I1.out).mono ?_); rintro e w' ⟨rfl, ⟨nd, rfl⟩⟩)); go_ret; exact ⟨zz1g J, (zz0y HB)⟩
 · have I0 := zA (show impl_in.f a0_0 1 40 = some false by rw [impl_in_eq, decide_eq_false h1]); have J := zA (show goodB a0_0 a0_1 l0_2 l0_3 l0_4 l0_5 = false by unfold goodB; rw [decide_eq_false h1]; simp); (try clear hr0_2 hr0_3 hrise eg); go_enter Try.func53, Try.ntmps53; go_wp2_with (first | ((with_reducible refine gate_dst (N := 1) rfl ?_); refine box_event ?hg (N := 1) ?hd (cs := #[.int .i64 a0_0, .int .i64 a0_1, .slice A0_2 l0_2.length c0_2, .slice A0_3 l0_3.length c0_3, .slice A0_4 l0_4.length c0_4, .slice A0_5 l0_5.length c0_5]) (t := 29) ?hr ?_; (case hd => rfl); (case hg => rfl); (case hr => first | (go_simp; done) | (go_simp; rfl)); intro gb hg w1 hbox hb; have n0_ := zA (zG HB.out hb); have n1_ := zA hbox; clear HB; have HB := n0_; have BK := n1_; have GE := zA (show w.heap.size ≤ gb by rw [hg]; omega); clear n0_ n1_ hb hbox hg; have hx0 : w1.cell? ⟨gb, 0, none⟩ = some (.int .i64 a0_0) := (zK BK.out 0).trans rfl; have hx1 : w1.cell? ⟨gb, 1, none⟩ = some (.int .i64 a0_1) := (zK BK.out 1).trans rfl; have hx2 : w1.cell? ⟨gb, 2, none⟩ = some (.slice A0_2 l0_2.length c0_2) := (zK BK.out 2).trans rfl; have hx3 : w1.cell? ⟨gb, 3, none⟩ = some (.slice A0_3 l0_3.length c0_3) := (zK BK.out 3).trans rfl; have hx4 : w1.cell? ⟨gb, 4, none⟩ = some (.slice A0_4 l0_4.length c0_4) := (zK BK.out 4).trans rfl; have hx5 : w1.cell? ⟨gb, 5, none⟩ = some (.slice A0_5 l0_5.length c0_5) := (zK BK.out 5).trans rfl) | (go_at_call 85; (with_reducible refine (impl_in.calls a0_0 1 40 false _ I0.out).mono ?_); rintro e w' ⟨rfl, ⟨nd, rfl⟩⟩)); go_ret; exact ⟨zz1g J, (zz0y HB)⟩
end Go.Proofs.Ytkocahlifffgjaa.P
