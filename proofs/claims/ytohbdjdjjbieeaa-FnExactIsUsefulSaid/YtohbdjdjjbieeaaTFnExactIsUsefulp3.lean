/- A part of the proof of the law FnExactIsUseful (words of the print and texts of this session, without what this law does not use). -/
import Derived.Below
import Derived.Deep.Draws
import Derived.Deep.AppendLies
import Derived.Maps.AppendAt
import Derived.OwnWalk
import Derived.Laws.BytesArg
import Derived.Laws.MakeOwn
import Derived.Laws.OwnMore
import Derived.Deep.OwnRows
import Derived.Tactics
import Derived.Lib.ConvBytes
import Derived.Laws.Slices
import Derived.WalkKit
import Derived.KernelRfl
import Derived.RowKit3
import Derived.Deep.LoopGhost
import Derived.Deep.QuietTactic
import Derived.BigQuiet
import Derived.WideLaws
import Derived.Deep.DeepCutAuto
import Derived.Deep.CutBlock
import Derived.Deep.RegionHeld3
import Derived.Laws.Rows
import Derived.Lib.AppendStr
import Derived.ArgAppend
import Derived.Laws.IdiomCopy
import Derived.RowKit
import Derived.OrdersHeld
import Derived.Laws.BitsLemmas
import Derived.Laws.StructEq
import Derived.Test.YtohbdjdjjbieeaaProg
import Derived.DataReads
import Derived.Deep.Slices
import Derived.OpenShut
import Derived.Shelf.Abstract
import Derived.Lib.SliceRun
import Derived.Orders
import Derived.Test.YtohbdjdjjbieeaaRows
import Derived.ProofKit
import Derived.ShutString
import Derived.ChangeOld
import Derived.SizedLaws
import Derived.Test.YtohbdjdjjbieeaaTFnExactIsUsefulp2
namespace Go.Proofs.Ytohbdjdjjbieeaa.P
open Go.RowKit Go.Proofs.YtohbdjdjjbieeaaW.PrintWords
set_option linter.unusedVariables false
set_option linter.unusedSimpArgs false
theorem take2_of {β : Type} (l : List β) (k : Nat) (a b : β) (ha : l[k]? = some a) (hb : l[k + 1]? = some b) : (l.drop k).take 2 = [a, b] := by
  obtain ⟨h1, h2⟩ := List.getElem?_eq_some_iff.1 ha
  obtain ⟨h3, h4⟩ := List.getElem?_eq_some_iff.1 hb
  rw [List.drop_eq_getElem_cons h1, List.drop_eq_getElem_cons h3, h2, h4]
  rfl
theorem take_ne {β : Type} (l : List β) (q i : Nat) (a b : β) (hne : q ≠ i) : ((((l.set (i * 2) a).set (i * 2 + 1) b).drop (q * 2)).take 2) = ((l.drop (q * 2)).take 2) := by
  apply List.ext_getElem?
  intro r
  rw [List.getElem?_take, List.getElem?_take]
  by_cases hr : r < 2
  · rw [if_pos hr, if_pos hr, List.getElem?_drop, List.getElem?_drop, List.getElem?_set_ne (by omega), List.getElem?_set_ne (by omega)]
  · rw [if_neg hr, if_neg hr]
theorem R_two {α : Type} {d : Kd α} (hd : d.sz = 2) {W : World} {base : Nat} {ok : Nat → Prop} {e g n cap : Nat} {xs : List α} (h : d.R e W base ok (.slice (some ⟨g, 0, none⟩) n cap) xs) (j : Nat) (x : α) (hx : xs[j]? = some x) :
    ∃ a b, W.cell? ⟨g, j * 2, none⟩ = some a ∧ W.cell? ⟨g, j * 2 + 1, none⟩ = some b ∧ d.M W base (fun k => ok k ∧ some k ≠ some g) x [a, b] ∧ W.frozen? ⟨g, j * 2, none⟩ = false ∧ W.frozen? ⟨g, j * 2 + 1, none⟩ = false ∧ g < W.heap.size := by
  obtain ⟨hok, inner, ⟨hlen, hrow⟩, hr1, hr2⟩ := h
  rcases hrow with ⟨hv, _⟩ | ⟨g', cap', cur, hv, hbg, hh, hnc, hcm, hcs, ht⟩
  · cases hv
  injection hv with ha0 hn0 hc0
  injection ha0 with ha0
  injection ha0 with hg0
  subst hg0; subst hc0
  rw [hd] at hlen hcs ht hr1 hr2
  obtain ⟨hj, _⟩ := List.getElem?_eq_some_iff.1 hx
  have h0 : j * 2 + 1 < inner.length := by omega
  have e0 : ∀ q, q < inner.length → cur[q]? = inner[q]? := fun q hq => by
    have := congrArg (fun l => l[q]?) ht
    simp only [List.getElem?_take] at this
    rw [if_pos (by omega), Array.getElem?_toList] at this
    exact this
  refine ⟨inner[j * 2], inner[j * 2 + 1], ?_, ?_, ?_, blk_frozen hh _, blk_frozen hh _, blk_lt hh⟩
  · rw [blk_cell hh, e0 _ (by omega), List.getElem?_eq_getElem]
  · rw [blk_cell hh, e0 _ (by omega), List.getElem?_eq_getElem]
  · have := hr2 j x hx
    rw [take2_of inner (j * 2) _ _ (List.getElem?_eq_getElem (by omega)) (List.getElem?_eq_getElem (by omega))] at this
    exact this
theorem R_copy2 {α : Type} {d : Kd α} (hd : d.sz = 2) {W : World} {base : Nat} {ok : Nat → Prop} {e g n cap : Nat} {xs : List α} (h : d.R e W base ok (.slice (some ⟨g, 0, none⟩) n cap) xs) (i j : Nat) (hi : i < xs.length) (x : α) (hx : xs[j]? = some x)
    {a b : Value} (ha : W.cell? ⟨g, j * 2, none⟩ = some a) (hb : W.cell? ⟨g, j * 2 + 1, none⟩ = some b) :
    d.R e ((W.setCell ⟨g, i * 2, none⟩ a).setCell ⟨g, i * 2 + 1, none⟩ b) base ok (.slice (some ⟨g, 0, none⟩) n cap) (xs.set i x) := by
  obtain ⟨a', b', ha', hb', hM, _, _, _⟩ := R_two hd h j x hx
  obtain rfl : a = a' := Option.some.inj (ha.symm.trans ha')
  obtain rfl : b = b' := Option.some.inj (hb.symm.trans hb')
  clear ha' hb'
  obtain ⟨hok, inner, ⟨hlen, hrow⟩, hr1, hr2⟩ := h
  rcases hrow with ⟨hv, _⟩ | ⟨g', cap', cur, hv, hbg, hh, hnc, hcm, hcs, ht⟩
  · cases hv
  injection hv with ha0 hn0 hc0
  injection ha0 with ha0
  injection ha0 with hg0
  subst hg0; subst hc0
  have hfar : ∀ k, k ≠ g → ((W.setCell ⟨g, i * 2, none⟩ a).setCell ⟨g, i * 2 + 1, none⟩ b).heap[k]? = W.heap[k]? := fun k hk => (Below.heap_setCell _ ⟨g, i * 2 + 1, none⟩ b k hk).trans (Below.heap_setCell W ⟨g, i * 2, none⟩ a k hk)
  have hmv : ∀ y cs, d.M W base (fun k => ok k ∧ some k ≠ some g) y cs → d.M ((W.setCell ⟨g, i * 2, none⟩ a).setCell ⟨g, i * 2 + 1, none⟩ b) base (fun k => ok k ∧ some k ≠ some g) y cs := fun y cs hm => d.M_move (fun k hk => hfar k (fun e => hk.2 (by rw [e]))) hm
  have hb2 := blk_put (blk_put hh (i * 2) a rfl) (i * 2 + 1) b rfl
  refine ⟨hok, (inner.set (i * 2) a).set (i * 2 + 1) b, ⟨by rw [List.length_set, List.length_set, List.length_set]; exact hlen, .inr ⟨g, cap, _, by rw [List.length_set, hn0], hbg, hb2, by rw [List.length_set]; exact hnc, hcm, by simpa using hcs, ?_⟩⟩, by rw [List.length_set, List.length_set, List.length_set]; exact hr1, fun q p hq => ?_⟩
  · rw [List.length_set, Array.toList_setIfInBounds, Array.toList_setIfInBounds, List.take_set, List.take_set, ht]
  · rw [hd] at hr1 hr2 ⊢
    by_cases hqi : q = i
    · subst hqi
      rw [List.getElem?_set_self hi] at hq
      obtain rfl := Option.some.inj hq
      rw [take2_of _ (q * 2) a b (by rw [List.getElem?_set_ne (by omega), List.getElem?_set_self (by omega)]) (by rw [List.getElem?_set_self (by rw [List.length_set]; omega)])]
      exact hmv _ _ hM
    · rw [List.getElem?_set_ne (fun e => hqi e.symm)] at hq
      rw [take_ne _ _ _ _ _ hqi]
      exact hmv _ _ (hr2 q p hq)
theorem R_head {α : Type} {d : Kd α} {W : World} {base : Nat} {ok : Nat → Prop} {e g n cap : Nat} {xs : List α} (h : d.R e W base ok (.slice (some ⟨g, 0, none⟩) n cap) xs) (m : Nat) (hm : m ≤ xs.length) :
    d.R e W base ok (.slice (some ⟨g, 0, none⟩) m cap) (xs.take m) := by
  obtain ⟨hok, inner, ⟨hlen, hrow⟩, hr1, hr2⟩ := h
  rcases hrow with ⟨hv, _⟩ | ⟨g', cap', cur, hv, hbg, hh, hnc, hcm, hcs, ht⟩
  · cases hv
  injection hv with ha0 hn0 hc0
  injection ha0 with ha0
  injection ha0 with hg0
  subst hg0; subst hc0
  have hl : (xs.take m).length = m := by rw [List.length_take]; omega
  have hms : m * d.sz ≤ xs.length * d.sz := Nat.mul_le_mul_right _ hm
  refine ⟨hok, inner.take (m * d.sz), ⟨by rw [List.length_take, hl, hlen]; exact Nat.min_eq_left hms, .inr ⟨g, cap, cur, by rw [hl], hbg, hh, by rw [hl]; omega, hcm, hcs, by rw [hl, ← ht, List.take_take, Nat.min_eq_left hms]⟩⟩, by rw [List.length_take, hl, hr1]; exact Nat.min_eq_left hms, fun q p hq => ?_⟩
  obtain ⟨hq1, _⟩ := List.getElem?_eq_some_iff.1 hq
  rw [hl] at hq1
  rw [List.getElem?_take, if_pos hq1] at hq
  have hx := hr2 q p hq
  have hqs : q * d.sz + d.sz ≤ m * d.sz := by rw [← Nat.succ_mul]; exact Nat.mul_le_mul_right _ hq1
  rw [List.drop_take, List.take_take, Nat.min_eq_left (by omega)]
  exact hx
theorem R_tail {α : Type} {d : Kd α} {W : World} {base : Nat} {ok : Nat → Prop} {e g n cap : Nat} {xs : List α} (h : d.R e W base ok (.slice (some ⟨g, 0, none⟩) n cap) xs) (o : Nat) (ho : xs.length * d.sz ≤ o) (vs : List Value) (hvs : o + vs.length ≤ cap * d.sz) :
    d.R e (W.setCells g o vs) base ok (.slice (some ⟨g, 0, none⟩) n cap) xs := by
  obtain ⟨hok, inner, ⟨hlen, hrow⟩, hr1, hr2⟩ := h
  rcases hrow with ⟨hv, _⟩ | ⟨g', cap', cur, hv, hbg, hh, hnc, hcm, hcs, ht⟩
  · cases hv
  injection hv with ha0 hn0 hc0
  injection ha0 with ha0
  injection ha0 with hg0
  subst hg0; subst hc0
  obtain ⟨cur', h3, h4, h5⟩ := setCells_row vs o W cur hh (by omega)
  refine ⟨hok, inner, ⟨hlen, .inr ⟨g, cap, cur', by rw [← hn0], hbg, h3, hnc, hcm, by rw [h4, hcs], ?_⟩⟩, hr1, fun q p hq => d.M_move (fun k hk => setCells_far vs o k (fun e => hk.2 (by rw [e]; rfl))) (hr2 q p hq)⟩
  have hcl : cur.toList.length = cap * d.sz := by rw [← hcs]; rfl
  have h6 : (cur.toList.take o).length = o := by rw [List.length_take, hcl]; omega
  rw [h5, List.take_append_of_le_length (by rw [List.length_append, h6]; omega), List.take_append_of_le_length (by rw [h6]; exact ho), List.take_take, Nat.min_eq_left ho, ht]
theorem S_part {α : Type} {d : Kd α} {f : Nat → Nat} {W : World} {base : Nat} {ok : Nat → Prop} {e : Nat} {v : Value} {zs : List (α × Nat)} (h : (Kd.tag f d).R e W base ok v zs) (hd : (zs.map Prod.snd).Nodup) : Kd.S d e W base ok v (zs.map Prod.fst) := by
  obtain ⟨hok, inner, ho, hr1, hr2⟩ := h
  refine ⟨fun b => (zs.map Prod.snd).idxOf (f b), hok, inner, by rw [List.length_zipIdx, List.length_map]; exact ho, by rw [List.length_zipIdx, List.length_map]; exact hr1, fun q p hq => ?_⟩
  rw [List.getElem?_zipIdx, Nat.zero_add] at hq
  obtain ⟨x, hx, rfl⟩ := Option.map_eq_some_iff.1 hq
  rw [List.getElem?_map] at hx
  obtain ⟨z, hz, rfl⟩ := Option.map_eq_some_iff.1 hx
  refine d.M_mono (fun b hb => ⟨hb.1, ?_⟩) (hr2 q z hz)
  have h2 : f b = z.2 := hb.2
  show (zs.map Prod.snd).idxOf (f b) = q
  obtain ⟨hq1, hq2⟩ := List.getElem?_eq_some_iff.1 hz
  have h3 : (zs.map Prod.snd)[q]'(by simpa using hq1) = z.2 := by rw [List.getElem_map, hq2]
  rw [h2, ← h3]
  exact List.Nodup.idxOf_getElem hd q (by simpa using hq1)
def zc (n : Nat) : List Value := (Builtin.zeroCells #[.int .i64 0, .slice none 0 0] n).toList
theorem zc_len (n : Nat) : (zc n).length = n * 2 := by simp [zc, Builtin.zeroCells]
theorem clear_two {P : Program} (w : World) (t e : TypeId) (b o n c : Nat) (ht : P.underlying t = some (.slice e)) (hv : ∀ w, (zeroValue e).run P w = .ok (.agg #[.int .i64 0, .slice none 0 0]) w) (hn : 0 < n)
    (hc : ∀ j, j < n * 2 → (w.cell? ⟨b, o + j, none⟩).isSome = true) (hf : ∀ j, j < n * 2 → w.frozen? ⟨b, o + j, none⟩ = false) :
    ∀ ty, (Builtin.clear_ #[t] ty #[.slice (some ⟨b, o, none⟩) n c]).run P w = .ok (.tuple #[]) (w.setCells b o (zc n)) := by
  intro ty
  have hone : ∀ v ∈ zc n, v.oneCell' = true := fun v hv' => by
    simp only [zc, Builtin.zeroCells, Array.toList_map, List.mem_map] at hv'
    obtain ⟨i, _, rfl⟩ := hv'
    have h2 : (#[(.int .i64 0 : Value), .slice none 0 0]).size = 2 := rfl
    rw [h2]
    have : i % 2 = 0 ∨ i % 2 = 1 := by omega
    rcases this with h | h <;> rw [h] <;> rfl
  have hst := run_storeCells_cells (P := P) b o (zc n) 0 w (by rw [zc_len]; simpa using hc) (by rw [zc_len]; simpa using hf) hone
  simp only [Nat.add_zero] at hst
  obtain ⟨m, rfl⟩ : ∃ m, n = m + 1 := ⟨n - 1, by omega⟩
  have hcl : (Value.agg #[.int .i64 0, .slice none 0 0]).cells = #[.int .i64 0, .slice none 0 0] := by simp [Value.cells]
  simp only [zc] at hst
  simp [Builtin.clear_, run_underlying ht, hv, hcl, hst, zc]
end Go.Proofs.Ytohbdjdjjbieeaa.P
namespace Go.Proofs.Ytohbdjdjjbieeaa.P
open Go.RowKit Go.Proofs.YtohbdjdjjbieeaaW.PrintWords Go.Proofs.YtohbdjdjjbieeaaW.PrintLast Go.Proofs.YtohbdjdjjbieeaaW.PrintMore
set_option linter.unusedVariables false
set_option linter.unusedSimpArgs false
def PredRD (g : Nat) (lb : Array Value) (D : S47 → Prop) (p : S47 → Bool) (w : World) : Prop :=
  ∀ (W : World) (x : S47) (A : Option Addr) (c : Nat), Below w.heap.size w W → x.f1.length ≤ c → Kd.C (Kd.int .i64) W A x.f1.length x.f1 → D x →
    Calls Try.prog g (#[.agg #[.int .i64 x.f0, .slice A x.f1.length c]] ++ lb) W fun e w' => e = .returned (.bool (p x)) ∧ Below W.heap.size W w'
def PredRG (g : Nat) (lb : Array Value) (D : S47 → Prop) (p : S47 → Bool) (row : Option Nat) (w : World) : Prop :=
  ∀ (W : World) (x : S47) (A : Option Addr) (c : Nat), w.grownBy W row → x.f1.length ≤ c → Kd.C (Kd.int .i64) W A x.f1.length x.f1 → D x →
    Calls Try.prog g (#[.agg #[.int .i64 x.f0, .slice A x.f1.length c]] ++ lb) W fun e w' => e = .returned (.bool (p x)) ∧ Below W.heap.size W w'
theorem wsucc (k : Nat) (h : k < 9223372036854775807) : wrap64 ((k : Int) + 1) = ((k + 1 : Nat) : Int) := by unfold wrap64; omega
theorem grown_of_below {w W : World} (h : Below w.heap.size w W) (row : Option Nat) : w.grownBy W row := ⟨h.os, h.tape, h.output, h.size, fun k hk _ => h.block k hk⟩
theorem grown_step {w W V : World} {row : Option Nat} (h : w.grownBy W row) (k : Below W.heap.size W V) : w.grownBy V row := ⟨k.os.trans h.os, k.tape.trans h.tape, k.output.trans h.output, Nat.le_trans h.size k.size, fun i hi hn => (k.block i (Nat.lt_of_lt_of_le hi h.size)).trans (h.block i hi hn)⟩
theorem grown_set {w W : World} {g : Nat} (h : w.grownBy W (some g)) (j : Nat) (u : Value) : w.grownBy (W.setCell ⟨g, j, none⟩ u) (some g) :=
  ⟨h.os, h.tape, h.output, by simpa [World.setCell] using h.size, fun k hk hn => (Below.heap_setCell W ⟨g, j, none⟩ u k (fun e => hn (by rw [e]))).trans (h.block k hk hn)⟩
theorem grown_cells {w W : World} {g : Nat} (h : w.grownBy W (some g)) (o : Nat) (vs : List Value) : w.grownBy (W.setCells g o vs) (some g) := by
  obtain ⟨s1, s2, s3, s4⟩ := setCells_same g vs o W
  exact ⟨s1.trans h.os, s2.trans h.tape, s3.trans h.output, by rw [s4]; exact h.size, fun k hk hn => (setCells_far vs o k (fun e => hn (by rw [e]))).trans (h.block k hk hn)⟩
def DelI (p : S47 → Bool) (xs : List S47) (zs : List (S47 × Nat)) (i j : Nat) : Prop :=
  zs.length = xs.length ∧ i ≤ j ∧ j ≤ xs.length ∧ zs.take i = (xs.zipIdx.take j).filter (fun z => !p z.1) ∧ zs.drop j = xs.zipIdx.drop j
theorem delI_start {p : S47 → Bool} {xs : List S47} {k : Nat} (hk : k < xs.length) (h0 : ∀ j, j < k → p (xs.getD j z47) = false) (h1 : p (xs.getD k z47) = true) : DelI p xs xs.zipIdx k (k + 1) := by
  have hl : xs.zipIdx.length = xs.length := List.length_zipIdx
  refine ⟨hl, Nat.le_succ _, hk, ?_, rfl⟩
  have hg : ∀ j, (hj : j < xs.length) → xs.getD j z47 = xs[j] := fun j hj => by rw [List.getD_eq_getElem?_getD, List.getElem?_eq_getElem hj]; rfl
  rw [List.take_add_one, List.getElem?_eq_getElem (by omega), List.filter_append]
  have e1 : (Option.toList (some xs.zipIdx[k])).filter (fun z => !p z.1) = [] := by
    rw [hg k hk] at h1
    simp [h1]
  rw [e1, List.append_nil, List.filter_eq_self.2]
  intro z hz
  obtain ⟨j, hj, rfl⟩ := List.getElem_of_mem hz
  rw [List.length_take] at hj
  have := h0 j (by omega)
  rw [hg j (by omega)] at this
  simp [this]
theorem delI_skip {p : S47 → Bool} {xs : List S47} {zs : List (S47 × Nat)} {i j : Nat} (h : DelI p xs zs i j) (hj : j < xs.length) (hp : p (rd_T47 xs j) = true) : DelI p xs zs i (j + 1) := by
  obtain ⟨h1, h2, h3, h4, h5⟩ := h
  have hl : xs.zipIdx.length = xs.length := List.length_zipIdx
  have hg : rd_T47 xs j = xs[j] := by unfold rd_T47; rw [Int.toNat_natCast, List.getD_eq_getElem?_getD, List.getElem?_eq_getElem hj]; rfl
  refine ⟨h1, by omega, hj, ?_, by rw [← List.drop_drop, h5, List.drop_drop]⟩
  rw [List.take_add_one, List.getElem?_eq_getElem (by omega), List.filter_append, h4]
  rw [hg] at hp
  simp [hp]
theorem delI_at {p : S47 → Bool} {xs : List S47} {zs : List (S47 × Nat)} {i j : Nat} (h : DelI p xs zs i j) (hj : j < xs.length) : zs[j]? = some (rd_T47 xs j, j) := by
  obtain ⟨h1, h2, h3, h4, h5⟩ := h
  have hg : rd_T47 xs j = xs[j] := by unfold rd_T47; rw [Int.toNat_natCast, List.getD_eq_getElem?_getD, List.getElem?_eq_getElem hj]; rfl
  have := congrArg (fun l => l[0]?) h5
  simp only [List.getElem?_drop, Nat.add_zero] at this
  rw [this, List.getElem?_zipIdx, List.getElem?_eq_getElem hj, hg, Nat.zero_add]; rfl
theorem delI_keep {p : S47 → Bool} {xs : List S47} {zs : List (S47 × Nat)} {i j : Nat} (h : DelI p xs zs i j) (hj : j < xs.length) (hp : p (rd_T47 xs j) = false) : DelI p xs (zs.set i (rd_T47 xs j, j)) (i + 1) (j + 1) := by
  obtain ⟨h1, h2, h3, h4, h5⟩ := h
  have hl : xs.zipIdx.length = xs.length := List.length_zipIdx
  have hg : rd_T47 xs j = xs[j] := by unfold rd_T47; rw [Int.toNat_natCast, List.getD_eq_getElem?_getD, List.getElem?_eq_getElem hj]; rfl
  refine ⟨by rw [List.length_set]; exact h1, by omega, hj, ?_, ?_⟩
  · rw [List.take_add_one, List.take_set, List.set_eq_of_length_le (by rw [List.length_take]; omega), List.getElem?_set_self (by omega), List.take_add_one, List.getElem?_eq_getElem (by omega), List.filter_append, h4]
    rw [hg] at hp ⊢
    simp [hp]
  · rw [List.drop_set_of_lt (by omega), ← List.drop_drop, h5, List.drop_drop]
theorem delI_end {p : S47 → Bool} {xs : List S47} {zs : List (S47 × Nat)} {i j : Nat} (h : DelI p xs zs i j) (hj : ¬ j < xs.length) : (zs.take i).map Prod.fst = xs.filter (fun x => !p x) ∧ ((zs.take i).map Prod.snd).Nodup := by
  obtain ⟨h1, h2, h3, h4, h5⟩ := h
  rw [h4, List.take_of_length_le (by rw [List.length_zipIdx]; omega)]
  refine ⟨?_, ?_⟩
  · rw [show (fun z : S47 × Nat => !p z.1) = ((fun x => !p x) ∘ Prod.fst) from rfl, ← List.filter_map, List.zipIdx_map_fst]
  · refine List.Nodup.sublist (List.Sublist.map _ (List.filter_sublist)) ?_
    rw [List.zipIdx_map_snd]
    exact List.nodup_range'
set_option maxHeartbeats 2000000 in
set_option maxRecDepth 100000 in
theorem indexFunc_ruleD (g : Nat) (lb : Array Value) (eg : ∀ args w, (callFunc g args).run Try.prog w = .ok (.enter g args) w) (p : S47 → Bool) (A : Option Addr) (c : Nat) (l : List S47) (w : World)
    (hr : Kd.C k47 w A l.length l) (hc : l.length ≤ c) (D : S47 → Prop) (hD : ∀ j : Nat, j < l.length → D (rd_T47 l j)) (hp : PredRD g lb D p w) :
    Calls Try.prog 89 #[.slice A l.length c, .func (.func g) #[] lb] w fun e w' => e = .returned (.int .i64 (idxF p l)) ∧ Below w.heap.size w w' := by
  have hmax : l.length ≤ 9223372036854775807 := hr.2.1
  go_enter Try.func89, Try.ntmps89
  go_wp2
  go_loopg [5, 8] l.length (fun gg _ s8 wr => ∃ kk : Nat, kk ≤ l.length ∧ l.length - kk ≤ gg ∧ s8 = .int .i64 kk ∧ Aside0 (Below w.heap.size w wr) ∧ Aside0 (∀ j, j < kk → p (l.getD j z47) = false))
  case atStart => exact ⟨0, Nat.zero_le _, by omega, rfl, ⟨Below.refl _ w⟩, ⟨fun j hj => absurd hj (Nat.not_lt_zero _)⟩⟩
  case round =>
    obtain ⟨kk, hkk, hg, rfl, BW, A0⟩ := hrel
    by_cases hlt : kk < l.length
    · obtain ⟨ad, A1, c1, e, hx0, hx1, hl1, hi1⟩ := at_T47 (Kd.C_below hr BW.out) (kk : Int) (by omega) (by omega)
      subst e
      have hx2 : wr.cell? (ad.add (kk * 2)) = some (.int .i64 (rd_T47 l kk).f0) := by simpa using hx0
      have hx3 : wr.cell? ⟨(ad.add (kk * 2)).block, (ad.add (kk * 2)).off + 1, none⟩ = some (.slice A1 (rd_T47 l kk).f1.length c1) := by simpa using hx1
      have hcall := hp wr (rd_T47 l kk) A1 c1 BW.out hl1 hi1 (hD kk hlt)
      have hB := Aside0.mk (show l.getD kk z47 = rd_T47 l kk from rfl)
      have L := Aside0.mk hlt
      have hd : decide (kk < l.length) = true := decide_eq_true hlt
      clear hx0 hx1 hp hr hl1 hi1 hD
      generalize rd_T47 l kk = y at hcall hB hx2 hx3
      cases hq : p y with
      | true =>
        rw [hq] at hcall
        have Q := Aside0.mk hq
        clear hq
        go_wp2_with fail
        refine hcall.mono ?_
        rintro e w' ⟨rfl, hb'⟩
        clear hcall hd eg hlt
        go_wp2
        go_ret
        refine ⟨?_, below_step BW.out hb'⟩
        rw [idxF_hit p l z47 kk L.out (by rw [hB.out]; exact Q.out) A0.out]; rfl
      | false =>
        rw [hq] at hcall
        have Q := Aside0.mk hq
        clear hq
        go_wp2_with fail
        refine hcall.mono ?_
        rintro e w' ⟨rfl, hb'⟩
        clear hcall hd eg
        go_wp2
        go_roundg (l.length - (kk + 1))
        case measure => have := L.out; omega
        case rel =>
          refine ⟨kk + 1, by have := L.out; omega, by omega, by go_num, ⟨below_step BW.out hb'⟩, ⟨fun j hj => ?_⟩⟩
          by_cases ej : j = kk
          · subst ej
            rw [hB.out]; exact Q.out
          · exact A0.out j (by omega)
    · have hd : decide (kk < l.length) = false := decide_eq_false hlt
      have L := Aside0.mk (show kk = l.length by omega)
      clear hp hr hlt hD
      go_wp2
      go_ret
      refine ⟨?_, BW.out⟩
      rw [idxF_miss p l z47 (by have := A0.out; rw [L.out] at this; exact this)]; rfl
set_option maxHeartbeats 4000000 in
set_option maxRecDepth 100000 in
theorem delete_calls (g : Nat) (lb : Array Value) (eg : ∀ args w, (callFunc g args).run Try.prog w = .ok (.enter g args) w) (p : S47 → Bool) (A : Option Addr) (c n : Nat) (l : List S47) (w : World) (base : Nat) (ok : Nat → Prop)
    (hS : Kd.S k47 47 w base ok (.slice A n c) l) (D : S47 → Prop) (hD : ∀ j : Nat, j < l.length → D (rd_T47 l j)) (hp : PredRG g lb D p (Value.slice A n c).ownBlock w) :
    Calls Try.prog 79 #[.slice A n c, .func (.func g) #[] lb] w fun e w' => (∃ v, e = .returned v ∧ Kd.S k47 47 w' base ok v (l.filter fun x => !p x)) ∧ w.grownBy w' (Value.slice A n c).ownBlock := by
  obtain ⟨hn, hcap, hC⟩ := Kd.S_reads' hS
  subst hn
  have hml : l.length ≤ 9223372036854775807 := hC.2.1
  have IX := indexFunc_ruleD g lb eg p A c l w hC hcap D hD (fun W x A2 c2 hW h1 h2 h3 => hp W x A2 c2 (grown_of_below hW _) h1 h2 h3)
  by_cases hany : l.any p = true
  · have hk : l.findIdx p < l.length := List.findIdx_lt_length_of_exists (by simpa using hany)
    have e1 : idxF p l = ((l.findIdx p : Nat) : Int) := by unfold idxF; rw [if_pos hany]
    have hg : ∀ j, (hj : j < l.length) → l.getD j z47 = l[j] := fun j hj => by rw [List.getD_eq_getElem?_getD, List.getElem?_eq_getElem hj]; rfl
    have DI := Aside0.mk (delI_start (p := p) (xs := l) hk (fun j hj => by rw [hg j (by omega)]; exact List.not_of_lt_findIdx hj) (by rw [hg _ hk]; exact List.findIdx_getElem))
    rw [e1] at IX
    generalize l.findIdx p = k0 at IX DI hk
    obtain ⟨ga, cap, hv, hbg, hga, _⟩ := Kd.S_form hS (by omega)
    injection hv with hA _ hc0
    subst hc0
    subst hA
    obtain ⟨ad, had⟩ : ∃ ad : Addr, ad = ⟨ga, 0, none⟩ := ⟨_, rfl⟩
    have AD := Aside0.mk had
    have hrow : (Value.slice (some (⟨ga, 0, none⟩ : Addr)) l.length c).ownBlock = some ga := rfl
    rw [hrow] at hp ⊢
    have HP := Aside0.mk hp
    obtain ⟨f, hR⟩ := hS
    have HR := Aside0.mk hR
    have HD := Aside0.mk hD
    have HCAP := Aside0.mk hcap
    rw [← had] at IX ⊢
    have hd0 : decide ((k0 : Int) = -1) = false := decide_eq_false (by omega)
    have hd1 : ((k0 : Int) == -1) = false := by simp
    have HK := Aside0.mk hk
    clear hR hD hcap had hp hrow hg e1 hany hk hga hbg hC
    go_enter Try.func79, Try.ntmps79
    go_wp2_with (go_at_call 89; (with_reducible refine IX.mono ?_); rintro e w1 ⟨rfl, hb_⟩; have HG := Aside0.mk (grown_of_below hb_ (some ga)); have HR1 := Aside0.mk (Kd.R_below HR.out hb_); clear HR IX hb_)
    clear hd0 hd1
    go_loopg [5, 6] l.length (fun gg s5 s6 wr => ∃ (ii kk : Nat) (zs : List (S47 × Nat)), kk ≤ l.length ∧ l.length - kk ≤ gg ∧ s5 = .int .i64 ii ∧ s6 = .int .i64 kk ∧ Aside0 (DelI p l zs ii kk) ∧ Aside0 (w.grownBy wr (some ga)) ∧ Aside0 ((Kd.tag f k47).R 47 wr base ok (.slice (some ⟨ga, 0, none⟩) l.length c) zs))
    case atStart => exact ⟨k0, k0 + 1, _, HK.out, by omega, rfl, congrArg (Value.int .i64) (wsucc k0 (by have := HK.out; omega)), DI, HG, HR1⟩
    case round =>
      clear HG HR1 DI
      obtain ⟨ii, kk, zs, hkk, hg, rfl, rfl, DI, HG, HR⟩ := hrel
      have hii : ii ≤ kk := DI.out.2.1
      by_cases hlt : kk < l.length
      · have hd : decide (kk < l.length) = true := decide_eq_true hlt
        have hzl : zs.length = l.length := DI.out.1
        have hz := delI_at DI.out hlt
        obtain ⟨a0, a1, hx0, hx1, hM, _, _, _⟩ := R_two rfl HR.out kk _ hz
        obtain ⟨v1, hcs, hRr⟩ := k47_openM hM
        injection hcs with ea0 hcs
        injection hcs with ea1 _
        obtain ⟨A1, c1, e1, hl1, hi1⟩ := Kd.R_reads hRr
        rw [ea0] at hx0
        rw [ea1, e1] at hx1
        clear hM hRr ea0 ea1 e1
        have hx2 : wr.cell? (ad.add (kk * 2)) = some (.int .i64 (rd_T47 l kk).f0) := by rw [AD.out, add_at, Nat.zero_add]; exact hx0
        have hx3 : wr.cell? ⟨(ad.add (kk * 2)).block, (ad.add (kk * 2)).off + 1, none⟩ = some (.slice A1 (rd_T47 l kk).f1.length c1) := by rw [AD.out, add_at, Nat.zero_add]; exact hx1
        have HX0 := Aside0.mk hx0
        have HX1 := Aside0.mk hx1
        have hcall := fun (V : World) (hV : Below wr.heap.size wr V) => HP.out V (rd_T47 l kk) A1 c1 (grown_step HG.out hV) hl1 (Kd.C_below hi1 hV) (HD.out kk hlt)
        have HZ := Aside0.mk hz
        have SK := fun h => Aside0.mk (delI_skip DI.out hlt h)
        have KP := fun h => Aside0.mk (delI_keep DI.out hlt h)
        have L := Aside0.mk hlt
        have HB := Aside0.mk (Below.refl wr.heap.size wr)
        clear hx0 hx1 hl1 hi1 hz DI
        generalize rd_T47 l kk = y at hcall hx2 hx3 HX0 HX1 HZ SK KP
        go_upto_region 8 with (first | ((with_reducible refine gate_dst (N := 7) rfl ?_); refine box_event ?hg (N := 7) ?hd (cs := #[.int .i64 0, .slice none 0 0]) (t := 47) ?hr ?_; (case hd => rfl); (case hg => rfl); (case hr => first | (go_simp; done) | (go_simp; rfl)); intro gc hg_ w5 hbox_ hb_; have GE_gc := Aside0.mk (show wr.heap.size ≤ gc by rw [hg_]; exact below_size (by repeat (first | (with_reducible first | exact HB.out | apply below_alloc | apply pw_below_drewN | apply below_drew1) | exact HB.out))); have n0_ := Aside0.mk (below_step (by repeat (first | (with_reducible first | exact HB.out | apply below_alloc | apply pw_below_drewN | apply below_drew1) | exact HB.out)) hb_); clear HB; have HB := n0_; clear n0_; have B_gc := Aside0.mk hbox_; clear hb_ hbox_ hg_; have x_gc_0 : w5.cell? ⟨gc, 0, none⟩ = some (.int .i64 0) := (blk_cell B_gc.out 0).trans rfl; have f_gc_0 := blk_frozen B_gc.out 0; have x_gc_1 : w5.cell? ⟨gc, 1, none⟩ = some (.slice none 0 0) := (blk_cell B_gc.out 1).trans rfl; have f_gc_1 := blk_frozen B_gc.out 1))
        obtain ⟨w6, hw_⟩ : ∃ w_ : World, w_ = ((w5.setCell ⟨gc, 0, none⟩ (.int .i64 y.f0)).setCell ⟨gc, 1, none⟩ (.slice A1 y.f1.length c1)) := ⟨_, rfl⟩
        rw [← hw_]
        clear x_gc_0 f_gc_0 x_gc_1 f_gc_1
        have m0_ := Aside0.mk (show Below wr.heap.size wr w6 by rw [hw_]; exact (below_set (below_set HB.out GE_gc.out) GE_gc.out))
        have m_gc := Aside0.mk (show w6.heap[gc]? = some (.cells #[.int .i64 y.f0, .slice A1 y.f1.length c1] 47 (0, 0)) by rw [hw_]; exact (blk_put (cs := #[.int .i64 y.f0, .slice none 0 0]) (blk_put (cs := #[.int .i64 0, .slice none 0 0]) B_gc.out 0 _ rfl) 1 _ rfl))
        clear HB hw_ B_gc
        have HB := m0_
        have B_gc := m_gc
        clear m0_ m_gc
        have x_gc_0 : w6.cell? ⟨gc, 0, none⟩ = some (.int .i64 y.f0) := (blk_cell B_gc.out 0).trans rfl
        have x_gc_1 : w6.cell? ⟨gc, 1, none⟩ = some (.slice A1 y.f1.length c1) := (blk_cell B_gc.out 1).trans rfl
        clear hx2 hx3
        replace hcall := hcall w6 HB.out
        cases hq : p y with
        | true =>
          have DI := SK hq
          rw [hq] at hcall
          clear hq SK KP
          go_wp2_with fail
          refine hcall.mono ?_
          rintro e w7 ⟨rfl, hb_⟩
          clear x_gc_0 x_gc_1
          have n0_ := Aside0.mk (below_step (by repeat (first | (with_reducible first | exact HB.out | apply below_alloc | apply pw_below_drewN | apply below_drew1) | exact HB.out)) hb_)
          have n_gc := Aside0.mk (blk_below (by (with_reducible repeat (first | refine blk_drewN ?_ _ | refine blk_drew ?_ | refine blk_alloc ?_ _)); exact B_gc.out) hb_)
          clear HB B_gc
          have HB := n0_
          have B_gc := n_gc
          clear n0_ n_gc
          clear hb_ hcall hd
          go_wp2
          go_roundg (l.length - (kk + 1))
          case measure => have := L.out; omega
          case rel => exact ⟨ii, kk + 1, zs, by have := L.out; omega, by omega, rfl, by go_num, DI, ⟨grown_step HG.out HB.out⟩, ⟨Kd.R_below HR.out HB.out⟩⟩
        | false =>
          have DI := KP hq
          rw [hq] at hcall
          clear hq SK KP
          go_wp2_with fail
          refine hcall.mono ?_
          rintro e w7 ⟨rfl, hb_⟩
          clear x_gc_0 x_gc_1
          have n0_ := Aside0.mk (below_step (by repeat (first | (with_reducible first | exact HB.out | apply below_alloc | apply pw_below_drewN | apply below_drew1) | exact HB.out)) hb_)
          have n_gc := Aside0.mk (blk_below (by (with_reducible repeat (first | refine blk_drewN ?_ _ | refine blk_drew ?_ | refine blk_alloc ?_ _)); exact B_gc.out) hb_)
          clear HB B_gc
          have HB := n0_
          have B_gc := n_gc
          clear n0_ n_gc
          clear hb_ hcall hd
          have x_gc_0 : w7.cell? ⟨gc, 0, none⟩ = some (.int .i64 y.f0) := (blk_cell B_gc.out 0).trans rfl
          have x_gc_1 : w7.cell? ⟨gc, 1, none⟩ = some (.slice A1 y.f1.length c1) := (blk_cell B_gc.out 1).trans rfl
          have hiz : ii < l.length := by omega
          have HR7 := Aside0.mk (Kd.R_below HR.out HB.out)
          have HG7 := Aside0.mk (grown_step HG.out HB.out)
          obtain ⟨q0, q1, hq0, hq1, _, hf0, hf1, _⟩ := R_two rfl HR7.out ii _ (List.getElem?_eq_getElem (show ii < zs.length by omega))
          have hy0 : w7.cell? (ad.add (ii * 2)) = some q0 := by rw [AD.out, add_at, Nat.zero_add]; exact hq0
          have hy1 : w7.cell? ⟨(ad.add (ii * 2)).block, (ad.add (ii * 2)).off + 1, none⟩ = some q1 := by rw [AD.out, add_at, Nat.zero_add]; exact hq1
          have hz0 : w7.frozen? (ad.add (ii * 2)) = false := by rw [AD.out, add_at, Nat.zero_add]; exact hf0
          have hz1 : w7.frozen? ⟨(ad.add (ii * 2)).block, (ad.add (ii * 2)).off + 1, none⟩ = false := by rw [AD.out, add_at, Nat.zero_add]; exact hf1
          have hy2 : (w7.setCell (ad.add (ii * 2)) (.int .i64 y.f0)).cell? ⟨(ad.add (ii * 2)).block, (ad.add (ii * 2)).off + 1, none⟩ = some q1 := (World.cell?_setCell_other w7 _ _ _ (fun e => by have := congrArg Addr.off e; simp at this)).trans hy1
          have HI := Aside0.mk (show ii < zs.length by omega)
          have HC := Aside0.mk (R_copy2 rfl HR7.out ii kk HI.out _ HZ.out ((HB.out.cell (World.block_lt_of_cell? wr _ HX0.out)).trans HX0.out) ((HB.out.cell (World.block_lt_of_cell? wr _ HX1.out)).trans HX1.out))
          have HGC := Aside0.mk (grown_set (grown_set HG7.out (ii * 2) (.int .i64 y.f0)) (ii * 2 + 1) (.slice A1 y.f1.length c1))
          have EQ := Aside0.mk (show (w7.setCell (ad.add (ii * 2)) (.int .i64 y.f0)).setCell ⟨(ad.add (ii * 2)).block, (ad.add (ii * 2)).off + 1, none⟩ (.slice A1 y.f1.length c1) = (w7.setCell ⟨ga, ii * 2, none⟩ (.int .i64 y.f0)).setCell ⟨ga, ii * 2 + 1, none⟩ (.slice A1 y.f1.length c1) by rw [AD.out, add_at, Nat.zero_add])
          clear hq0 hq1 hf0 hf1 HR7 HG7
          go_wp2
          rw [EQ.out]
          go_roundg (l.length - (kk + 1))
          case measure => have := L.out; omega
          case rel => exact ⟨ii + 1, kk + 1, _, by have := L.out; omega, by omega, by go_num, by go_num, DI, HGC, HC⟩
      · have hd : decide (kk < l.length) = false := decide_eq_false hlt
        obtain ⟨E1, E2⟩ := delI_end DI.out hlt
        have hin : ii ≤ l.length := by omega
        have hzl : zs.length = l.length := DI.out.1
        have hcap := HCAP.out
        have HH := R_head HR.out ii (by omega)
        obtain ⟨i0, hi0, hz0, hsz0, _⟩ := info_parts info47
        have hcut0 := cut_from (P := Try.prog) 28 47 .i64 Try.underlying28 hi0 2 hsz0 (some ad) l.length c ii (by omega) (by omega)
        have hcut1 := cut_to (P := Try.prog) 28 47 .i64 Try.underlying28 hi0 (some ad) l.length c ii (by omega) (by omega) hcap
        rw [Int.toNat_natCast] at hcut0 hcut1
        obtain ⟨A9, hA9⟩ : ∃ A9 : Option Addr, A9 = (if c = ii then some ad else (some ad).map (·.add (ii * 2))) := ⟨_, rfl⟩
        have hcut : ∀ W : World, (Instr.slice 28 (.slice (some ad) l.length c) (some (.int .i64 ii)) none none).run Try.prog W = .ok (.slice A9 (l.length - ii) (c - ii)) W := fun W => by rw [hcut0 W, hA9]
        have hclr : ∃ V : World, (∀ ty, (Builtin.clear_ #[28] ty #[.slice A9 (l.length - ii) (c - ii)]).run Try.prog wr = .ok (.tuple #[]) V) ∧ w.grownBy V (some ga) ∧ (Kd.tag f k47).R 47 V base ok (.slice (some ⟨ga, 0, none⟩) ii c) (zs.take ii) := by
          by_cases h0 : l.length - ii = 0
          · exact ⟨wr, fun ty => by rw [h0]; cases A9 <;> simp [Builtin.clear_], HG.out, HH⟩
          · have hA9' : A9 = some ⟨ga, ii * 2, none⟩ := by rw [hA9, if_neg (by omega), AD.out, Option.map_some, add_at, Nat.zero_add]
            subst hA9'
            obtain ⟨hok, inner, ⟨hlen, hrow⟩, hr1, hr2⟩ := HR.out
            rcases hrow with ⟨hv, _⟩ | ⟨g', cap', cur, hv, hbg, hh, hnc, hcm, hcs, ht⟩
            · cases hv
            injection hv with ha0 hn0 hc0
            injection ha0 with ha0
            injection ha0 with hg0
            subst hg0; subst hc0
            have hsz2 : (Kd.tag f k47).sz = 2 := rfl
            have hzc : ∀ W : World, (zeroValue 47).run Try.prog W = .ok (.agg #[.int .i64 0, .slice none 0 0]) W := fun W => by simp [zeroValue, typeInfo, hi0, hz0]
            have hst := clear_two (P := Try.prog) wr 28 47 ga (ii * 2) (l.length - ii) (c - ii) Try.underlying28 hzc (by omega) (fun j hj => by rw [blk_cell hh]; simp; rw [hcs, hsz2]; omega) (fun j hj => blk_frozen hh _)
            exact ⟨_, hst, grown_cells HG.out _ _, R_tail HH (ii * 2) (by rw [List.length_take, hsz2]; omega) _ (by rw [zc_len, hsz2]; omega)⟩
        obtain ⟨V, hclr, hGV, hRV⟩ := hclr
        have FIN := Aside0.mk (show Kd.S k47 47 V base ok (.slice (some ad) ii c) (l.filter fun x => !p x) by rw [AD.out, ← E1]; exact S_part hRV E2)
        have HV := Aside0.mk hGV
        clear hRV hGV E1 E2 hcut0 hA9 HH HR HG DI hlt hin hzl hcap hi0 hz0 hsz0
        go_wp2
        go_ret
        exact ⟨⟨_, rfl, FIN.out⟩, HV.out⟩
  · have e1 : idxF p l = -1 := by unfold idxF; rw [if_neg hany]
    have e2 : l.filter (fun x => !p x) = l := List.filter_eq_self.2 (fun x hx => by have : p x = false := eq_false_of_ne_true (fun h => hany (List.any_eq_true.2 ⟨x, hx, h⟩)); rw [this]; rfl)
    rw [e1] at IX
    rw [e2]
    have HS := Aside0.mk hS
    clear hS hp hD hany e1 e2 hcap hC
    go_enter Try.func79, Try.ntmps79
    go_wp2_with (go_at_call 89; (with_reducible refine IX.mono ?_); rintro e w1 ⟨rfl, hb_⟩; have HB := Aside0.mk hb_; clear IX hb_)
    go_ret
    exact ⟨⟨_, rfl, Kd.S_below HS.out HB.out⟩, grown_of_below HB.out _⟩
end Go.Proofs.Ytohbdjdjjbieeaa.P
namespace Go.Proofs.Ytohbdjdjjbieeaa.P
open Go.RowKit Go.Proofs.YtohbdjdjjbieeaaW.PrintWords Go.Proofs.YtohbdjdjjbieeaaW.PrintLast Go.Proofs.YtohbdjdjjbieeaaW.PrintMore
set_option linter.unusedVariables false
set_option linter.unusedSimpArgs false
def stepC (mk : S47 → List Bool → Bool) (x : S47) (q : List Bool × Bool) : List Bool × Bool := if (!q.1.getD x.f0.toNat false && mk x q.1) = true then (q.1.set x.f0.toNat true, true) else q
def passC (mk : S47 → List Bool → Bool) (l : List S47) (q : List Bool × Bool) : List Bool × Bool := l.foldl (fun q x => stepC mk x q) q
def closeN (mk : S47 → List Bool → Bool) (l : List S47) : Nat → List Bool → List Bool
  | 0, s => s
  | n + 1, s => if (passC mk l (s, false)).2 = true then closeN mk l n (passC mk l (s, false)).1 else (passC mk l (s, false)).1
def closedF (mk : S47 → List Bool → Bool) (l : List S47) : List Bool := closeN mk l 7 [false, false, false, false, false, false]
def okR6 (x : S47) : Prop := (0 ≤ x.f0 ∧ x.f0 < 6) ∧ ∀ j : Nat, j < x.f1.length → rd x.f1 j < 6
def PredC (g : Nat) (lb : Array Value) (mk : S47 → List Bool → Bool) (w : World) : Prop :=
  ∀ (W : World) (x : S47) (A : Option Addr) (c : Nat) (b0 b1 b2 b3 b4 b5 : Bool), Below w.heap.size w W → x.f1.length ≤ c → Kd.C (Kd.int .i64) W A x.f1.length x.f1 → okR6 x →
    Calls Try.prog g (#[.agg #[.int .i64 x.f0, .slice A x.f1.length c], .agg #[.bool b0, .bool b1, .bool b2, .bool b3, .bool b4, .bool b5]] ++ lb) W fun e w' => e = .returned (.bool (mk x [b0, b1, b2, b3, b4, b5])) ∧ Below W.heap.size W w'
theorem set6_len (s : List Bool) (i : Nat) (h : s.length = 6) : (s.set i true).length = 6 := by rw [List.length_set]; exact h
theorem six (s : List Bool) (h : s.length = 6) : ∃ b0 b1 b2 b3 b4 b5, s = [b0, b1, b2, b3, b4, b5] := by
  match s, h with
  | [b0, b1, b2, b3, b4, b5], _ => exact ⟨b0, b1, b2, b3, b4, b5, rfl⟩
def cntF (s : List Bool) : Nat := s.count false
theorem cntF_set (s : List Bool) (i : Nat) (hi : i < s.length) (h : s.getD i false = false) : cntF (s.set i true) + 1 = cntF s := by
  unfold cntF
  induction s generalizing i with
  | nil => simp at hi
  | cons b s ih =>
    cases i with
    | zero =>
      have hb : b = false := by simpa using h
      subst hb
      simp [List.count_cons]
    | succ i =>
      have := ih i (by simpa using hi) (by simpa using h)
      simp only [List.set_cons_succ, List.count_cons]
      omega
theorem stepC_len (mk) (x) (q : List Bool × Bool) (h : q.1.length = 6) : (stepC mk x q).1.length = 6 := by
  unfold stepC
  split
  · exact set6_len _ _ h
  · exact h
theorem bools_set (b0 b1 b2 b3 b4 b5 : Bool) (i : Nat) (c0 c1 c2 c3 c4 c5 : Bool) (h : [b0, b1, b2, b3, b4, b5].set i true = [c0, c1, c2, c3, c4, c5]) :
    (#[.bool b0, .bool b1, .bool b2, .bool b3, .bool b4, .bool b5] : Array Value).setIfInBounds i (.bool true) = #[.bool c0, .bool c1, .bool c2, .bool c3, .bool c4, .bool c5] := by
  have e : ∀ l : List Bool, ((l.map Value.bool).toArray).setIfInBounds i (.bool true) = ((l.set i true).map Value.bool).toArray := fun l => by
    rw [List.setIfInBounds_toArray, List.map_set]
  have := e [b0, b1, b2, b3, b4, b5]
  rw [h] at this
  exact this
theorem bools_get (b0 b1 b2 b3 b4 b5 : Bool) (i : Nat) (hi : i < 6) : (#[.bool b0, .bool b1, .bool b2, .bool b3, .bool b4, .bool b5] : Array Value)[i]? = some (.bool ([b0, b1, b2, b3, b4, b5].getD i false)) := by
  match i, hi with
  | 0, _ => rfl
  | 1, _ => rfl
  | 2, _ => rfl
  | 3, _ => rfl
  | 4, _ => rfl
  | 5, _ => rfl
set_option maxHeartbeats 4000000 in
set_option maxRecDepth 100000 in
theorem closed_calls (g : Nat) (lb : Array Value) (eg : ∀ args w, (callFunc g args).run Try.prog w = .ok (.enter g args) w) (mk : S47 → List Bool → Bool) (a0 a1 : Int) (A : Option Addr) (c : Nat) (l : List S47) (w : World)
    (hr : Kd.C k47 w A l.length l) (hc : l.length ≤ c) (hok : ∀ j : Nat, j < l.length → okR6 (rd_T47 l j)) (hp : PredC g lb mk w) :
    Calls Try.prog 68 #[.agg #[.int .i64 a0, .int .i64 a1, .slice A l.length c], .func (.func g) #[] lb] w fun e w' => (∃ b0 b1 b2 b3 b4 b5, e = .returned (.agg #[.bool b0, .bool b1, .bool b2, .bool b3, .bool b4, .bool b5]) ∧ closedF mk l = [b0, b1, b2, b3, b4, b5]) ∧ Below w.heap.size w w' := by
  have hu := Try.underlying30
  have hml : l.length ≤ 9223372036854775807 := hr.2.1
  have HR := Aside0.mk hr
  have HOK := Aside0.mk hok
  have HP := Aside0.mk hp
  have HB := Aside0.mk (Below.refl w.heap.size w)
  clear hr hok hp
  go_enter Try.func68, Try.ntmps68
  go_wp2_with (first | ((with_reducible refine gate_dst (N := 2) rfl ?_); refine box_event ?hg (N := 2) ?hd (cs := #[.int .i64 a0, .int .i64 a1, .slice A l.length c]) (t := 30) ?hr ?_; (case hd => rfl); (case hg => rfl); (case hr => first | (go_simp; done) | (go_simp; rfl)); intro gb hg_ w1 hbox_ hb_; have GE_gb := Aside0.mk (show w.heap.size ≤ gb by rw [hg_]; exact below_size (by repeat (first | (with_reducible first | exact HB.out | apply below_alloc | apply pw_below_drewN | apply below_drew1) | exact HB.out))); have n0_ := Aside0.mk (below_step (by repeat (first | (with_reducible first | exact HB.out | apply below_alloc | apply pw_below_drewN | apply below_drew1) | exact HB.out)) hb_); clear HB; have HB := n0_; clear n0_; have B_gb := Aside0.mk hbox_; clear hb_ hbox_ hg_) | ((with_reducible refine gate_dst (N := 4) rfl ?_); refine box_event ?hg (N := 4) ?hd (cs := #[.bool false, .bool false, .bool false, .bool false, .bool false, .bool false]) (t := 54) ?hr ?_; (case hd => rfl); (case hg => rfl); (case hr => first | (go_simp; done) | (go_simp; rfl)); intro gr hg_ w2 hbox_ hb_; have GE_gr := Aside0.mk (show w.heap.size ≤ gr by rw [hg_]; exact below_size (by repeat (first | (with_reducible first | exact HB.out | apply below_alloc | apply pw_below_drewN | apply below_drew1) | exact HB.out))); have NE_gb_gr := Aside0.mk (show gb ≠ gr by rw [hg_]; exact Nat.ne_of_lt (blk_lt (by (with_reducible repeat (first | refine blk_drewN ?_ _ | refine blk_drew ?_ | refine blk_alloc ?_ _)); exact B_gb.out))); have n0_ := Aside0.mk (below_step (by repeat (first | (with_reducible first | exact HB.out | apply below_alloc | apply pw_below_drewN | apply below_drew1) | exact HB.out)) hb_); have n_gb := Aside0.mk (blk_below (by (with_reducible repeat (first | refine blk_drewN ?_ _ | refine blk_drew ?_ | refine blk_alloc ?_ _)); exact B_gb.out) hb_); clear HB B_gb; have HB := n0_; have B_gb := n_gb; clear n0_ n_gb; have B_gr := Aside0.mk hbox_; clear hb_ hbox_ hg_) | ((with_reducible refine gate_dst (N := 5) rfl ?_); refine box_event ?hg (N := 5) ?hd (cs := #[.bool false, .bool false, .bool false, .bool false, .bool false, .bool false]) (t := 54) ?hr ?_; (case hd => rfl); (case hg => rfl); (case hr => first | (go_simp; done) | (go_simp; rfl)); intro gs hg_ w3 hbox_ hb_; have GE_gs := Aside0.mk (show w.heap.size ≤ gs by rw [hg_]; exact below_size (by repeat (first | (with_reducible first | exact HB.out | apply below_alloc | apply pw_below_drewN | apply below_drew1) | exact HB.out))); have NE_gb_gs := Aside0.mk (show gb ≠ gs by rw [hg_]; exact Nat.ne_of_lt (blk_lt (by (with_reducible repeat (first | refine blk_drewN ?_ _ | refine blk_drew ?_ | refine blk_alloc ?_ _)); exact B_gb.out))); have NE_gr_gs := Aside0.mk (show gr ≠ gs by rw [hg_]; exact Nat.ne_of_lt (blk_lt (by (with_reducible repeat (first | refine blk_drewN ?_ _ | refine blk_drew ?_ | refine blk_alloc ?_ _)); exact B_gr.out))); have n0_ := Aside0.mk (below_step (by repeat (first | (with_reducible first | exact HB.out | apply below_alloc | apply pw_below_drewN | apply below_drew1) | exact HB.out)) hb_); have n_gb := Aside0.mk (blk_below (by (with_reducible repeat (first | refine blk_drewN ?_ _ | refine blk_drew ?_ | refine blk_alloc ?_ _)); exact B_gb.out) hb_); have n_gr := Aside0.mk (blk_below (by (with_reducible repeat (first | refine blk_drewN ?_ _ | refine blk_drew ?_ | refine blk_alloc ?_ _)); exact B_gr.out) hb_); clear HB B_gb B_gr; have HB := n0_; have B_gb := n_gb; have B_gr := n_gr; clear n0_ n_gb n_gr; have B_gs := Aside0.mk hbox_; clear hb_ hbox_ hg_; have x_gs_0 : w3.cell? ⟨gs, 0, none⟩ = some (.bool false) := (blk_cell B_gs.out 0).trans rfl; have f_gs_0 := blk_frozen B_gs.out 0; have x_gs_1 : w3.cell? ⟨gs, 1, none⟩ = some (.bool false) := (blk_cell B_gs.out 1).trans rfl; have f_gs_1 := blk_frozen B_gs.out 1; have x_gs_2 : w3.cell? ⟨gs, 2, none⟩ = some (.bool false) := (blk_cell B_gs.out 2).trans rfl; have f_gs_2 := blk_frozen B_gs.out 2; have x_gs_3 : w3.cell? ⟨gs, 3, none⟩ = some (.bool false) := (blk_cell B_gs.out 3).trans rfl; have f_gs_3 := blk_frozen B_gs.out 3; have x_gs_4 : w3.cell? ⟨gs, 4, none⟩ = some (.bool false) := (blk_cell B_gs.out 4).trans rfl; have f_gs_4 := blk_frozen B_gs.out 4; have x_gs_5 : w3.cell? ⟨gs, 5, none⟩ = some (.bool false) := (blk_cell B_gs.out 5).trans rfl; have f_gs_5 := blk_frozen B_gs.out 5))
  obtain ⟨w4, hw_⟩ : ∃ w_ : World, w_ = ((((((w3.setCell ⟨gs, 0, none⟩ (.bool false)).setCell ⟨gs, 1, none⟩ (.bool false)).setCell ⟨gs, 2, none⟩ (.bool false)).setCell ⟨gs, 3, none⟩ (.bool false)).setCell ⟨gs, 4, none⟩ (.bool false)).setCell ⟨gs, 5, none⟩ (.bool false)) := ⟨_, rfl⟩
  rw [← hw_]
  clear x_gs_0 f_gs_0 x_gs_1 f_gs_1 x_gs_2 f_gs_2 x_gs_3 f_gs_3 x_gs_4 f_gs_4 x_gs_5 f_gs_5
  have m0_ := Aside0.mk (show Below w.heap.size w w4 by rw [hw_]; exact (below_set (below_set (below_set (below_set (below_set (below_set HB.out GE_gs.out) GE_gs.out) GE_gs.out) GE_gs.out) GE_gs.out) GE_gs.out))
  have m_gb := Aside0.mk (show w4.heap[gb]? = some (.cells #[.int .i64 a0, .int .i64 a1, .slice A l.length c] 30 (0, 0)) by rw [hw_]; exact (blk_far (blk_far (blk_far (blk_far (blk_far (blk_far B_gb.out NE_gb_gs.out _) NE_gb_gs.out _) NE_gb_gs.out _) NE_gb_gs.out _) NE_gb_gs.out _) NE_gb_gs.out _))
  have m_gr := Aside0.mk (show w4.heap[gr]? = some (.cells #[.bool false, .bool false, .bool false, .bool false, .bool false, .bool false] 54 (0, 0)) by rw [hw_]; exact (blk_far (blk_far (blk_far (blk_far (blk_far (blk_far B_gr.out NE_gr_gs.out _) NE_gr_gs.out _) NE_gr_gs.out _) NE_gr_gs.out _) NE_gr_gs.out _) NE_gr_gs.out _))
  have m_gs := Aside0.mk (show w4.heap[gs]? = some (.cells #[.bool false, .bool false, .bool false, .bool false, .bool false, .bool false] 54 (0, 0)) by rw [hw_]; exact (blk_put (cs := #[.bool false, .bool false, .bool false, .bool false, .bool false, .bool false]) (blk_put (cs := #[.bool false, .bool false, .bool false, .bool false, .bool false, .bool false]) (blk_put (cs := #[.bool false, .bool false, .bool false, .bool false, .bool false, .bool false]) (blk_put (cs := #[.bool false, .bool false, .bool false, .bool false, .bool false, .bool false]) (blk_put (cs := #[.bool false, .bool false, .bool false, .bool false, .bool false, .bool false]) (blk_put (cs := #[.bool false, .bool false, .bool false, .bool false, .bool false, .bool false]) B_gs.out 0 _ rfl) 1 _ rfl) 2 _ rfl) 3 _ rfl) 4 _ rfl) 5 _ rfl))
  clear HB hw_ B_gb B_gr B_gs
  have HB := m0_
  have B_gb := m_gb
  have B_gr := m_gr
  have B_gs := m_gs
  clear m0_ m_gb m_gr m_gs
  go_loopg [6] 7 (fun gg s6 wr => ∃ (n : Nat) (b0 b1 b2 b3 b4 b5 ag : Bool), s6 = .bool ag ∧ n ≤ gg ∧ Aside0 (ag = true → cntF [b0, b1, b2, b3, b4, b5] < n ∧ closeN mk l n [b0, b1, b2, b3, b4, b5] = closedF mk l) ∧ Aside0 (ag = false → [b0, b1, b2, b3, b4, b5] = closedF mk l) ∧ Aside0 (wr.heap[gb]? = some (.cells #[.int .i64 a0, .int .i64 a1, .slice A l.length c] 30 (0, 0))) ∧ Aside0 (wr.heap[gr]? = some (.cells #[.bool false, .bool false, .bool false, .bool false, .bool false, .bool false] 54 (0, 0))) ∧ Aside0 (wr.heap[gs]? = some (.cells #[.bool b0, .bool b1, .bool b2, .bool b3, .bool b4, .bool b5] 54 (0, 0))) ∧ Aside0 (Below w.heap.size w wr))
  case atStart => exact ⟨7, _, _, _, _, _, _, true, rfl, Nat.le_refl _, ⟨fun _ => ⟨by decide, rfl⟩⟩, ⟨fun h => by cases h⟩, B_gb, B_gr, B_gs, HB⟩
  case round =>
    clear B_gb B_gr B_gs HB
    obtain ⟨n, b0, b1, b2, b3, b4, b5, ag, rfl, hn, CT, CF, B_gb, B_gr, B_gs, HB⟩ := hrel
    cases ag with
    | false =>
      have x_gb_0 : wr.cell? ⟨gb, 0, none⟩ = some (.int .i64 a0) := (blk_cell B_gb.out 0).trans rfl
      have x_gb_1 : wr.cell? ⟨gb, 1, none⟩ = some (.int .i64 a1) := (blk_cell B_gb.out 1).trans rfl
      have x_gb_2 : wr.cell? ⟨gb, 2, none⟩ = some (.slice A l.length c) := (blk_cell B_gb.out 2).trans rfl
      have x_gr_0 : wr.cell? ⟨gr, 0, none⟩ = some (.bool false) := (blk_cell B_gr.out 0).trans rfl
      have f_gr_0 := blk_frozen B_gr.out 0
      have x_gr_1 : wr.cell? ⟨gr, 1, none⟩ = some (.bool false) := (blk_cell B_gr.out 1).trans rfl
      have f_gr_1 := blk_frozen B_gr.out 1
      have x_gr_2 : wr.cell? ⟨gr, 2, none⟩ = some (.bool false) := (blk_cell B_gr.out 2).trans rfl
      have f_gr_2 := blk_frozen B_gr.out 2
      have x_gr_3 : wr.cell? ⟨gr, 3, none⟩ = some (.bool false) := (blk_cell B_gr.out 3).trans rfl
      have f_gr_3 := blk_frozen B_gr.out 3
      have x_gr_4 : wr.cell? ⟨gr, 4, none⟩ = some (.bool false) := (blk_cell B_gr.out 4).trans rfl
      have f_gr_4 := blk_frozen B_gr.out 4
      have x_gr_5 : wr.cell? ⟨gr, 5, none⟩ = some (.bool false) := (blk_cell B_gr.out 5).trans rfl
      have f_gr_5 := blk_frozen B_gr.out 5
      have x_gs_0 : wr.cell? ⟨gs, 0, none⟩ = some (.bool b0) := (blk_cell B_gs.out 0).trans rfl
      have x_gs_1 : wr.cell? ⟨gs, 1, none⟩ = some (.bool b1) := (blk_cell B_gs.out 1).trans rfl
      have x_gs_2 : wr.cell? ⟨gs, 2, none⟩ = some (.bool b2) := (blk_cell B_gs.out 2).trans rfl
      have x_gs_3 : wr.cell? ⟨gs, 3, none⟩ = some (.bool b3) := (blk_cell B_gs.out 3).trans rfl
      have x_gs_4 : wr.cell? ⟨gs, 4, none⟩ = some (.bool b4) := (blk_cell B_gs.out 4).trans rfl
      have x_gs_5 : wr.cell? ⟨gs, 5, none⟩ = some (.bool b5) := (blk_cell B_gs.out 5).trans rfl
      have FIN := Aside0.mk (CF.out rfl)
      clear CT CF
      go_wp2
      obtain ⟨w9, hw_⟩ : ∃ w_ : World, w_ = ((((((wr.setCell ⟨gr, 0, none⟩ (.bool b0)).setCell ⟨gr, 1, none⟩ (.bool b1)).setCell ⟨gr, 2, none⟩ (.bool b2)).setCell ⟨gr, 3, none⟩ (.bool b3)).setCell ⟨gr, 4, none⟩ (.bool b4)).setCell ⟨gr, 5, none⟩ (.bool b5)) := ⟨_, rfl⟩
      rw [← hw_]
      clear x_gb_0 x_gb_1 x_gb_2 x_gr_0 f_gr_0 x_gr_1 f_gr_1 x_gr_2 f_gr_2 x_gr_3 f_gr_3 x_gr_4 f_gr_4 x_gr_5 f_gr_5 x_gs_0 x_gs_1 x_gs_2 x_gs_3 x_gs_4 x_gs_5
      have m0_ := Aside0.mk (show Below w.heap.size w w9 by rw [hw_]; exact (below_set (below_set (below_set (below_set (below_set (below_set HB.out GE_gr.out) GE_gr.out) GE_gr.out) GE_gr.out) GE_gr.out) GE_gr.out))
      have m_gb := Aside0.mk (show w9.heap[gb]? = some (.cells #[.int .i64 a0, .int .i64 a1, .slice A l.length c] 30 (0, 0)) by rw [hw_]; exact (blk_far (blk_far (blk_far (blk_far (blk_far (blk_far B_gb.out NE_gb_gr.out _) NE_gb_gr.out _) NE_gb_gr.out _) NE_gb_gr.out _) NE_gb_gr.out _) NE_gb_gr.out _))
      have m_gr := Aside0.mk (show w9.heap[gr]? = some (.cells #[.bool b0, .bool b1, .bool b2, .bool b3, .bool b4, .bool b5] 54 (0, 0)) by rw [hw_]; exact (blk_put (cs := #[.bool b0, .bool b1, .bool b2, .bool b3, .bool b4, .bool false]) (blk_put (cs := #[.bool b0, .bool b1, .bool b2, .bool b3, .bool false, .bool false]) (blk_put (cs := #[.bool b0, .bool b1, .bool b2, .bool false, .bool false, .bool false]) (blk_put (cs := #[.bool b0, .bool b1, .bool false, .bool false, .bool false, .bool false]) (blk_put (cs := #[.bool b0, .bool false, .bool false, .bool false, .bool false, .bool false]) (blk_put (cs := #[.bool false, .bool false, .bool false, .bool false, .bool false, .bool false]) B_gr.out 0 _ rfl) 1 _ rfl) 2 _ rfl) 3 _ rfl) 4 _ rfl) 5 _ rfl))
      have m_gs := Aside0.mk (show w9.heap[gs]? = some (.cells #[.bool b0, .bool b1, .bool b2, .bool b3, .bool b4, .bool b5] 54 (0, 0)) by rw [hw_]; exact (blk_far (blk_far (blk_far (blk_far (blk_far (blk_far B_gs.out (Ne.symm NE_gr_gs.out) _) (Ne.symm NE_gr_gs.out) _) (Ne.symm NE_gr_gs.out) _) (Ne.symm NE_gr_gs.out) _) (Ne.symm NE_gr_gs.out) _) (Ne.symm NE_gr_gs.out) _))
      clear HB hw_ B_gb B_gr B_gs
      have HB := m0_
      have B_gb := m_gb
      have B_gr := m_gr
      have B_gs := m_gs
      clear m0_ m_gb m_gr m_gs
      have x_gr_0 : w9.cell? ⟨gr, 0, none⟩ = some (.bool b0) := (blk_cell B_gr.out 0).trans rfl
      have x_gr_1 : w9.cell? ⟨gr, 1, none⟩ = some (.bool b1) := (blk_cell B_gr.out 1).trans rfl
      have x_gr_2 : w9.cell? ⟨gr, 2, none⟩ = some (.bool b2) := (blk_cell B_gr.out 2).trans rfl
      have x_gr_3 : w9.cell? ⟨gr, 3, none⟩ = some (.bool b3) := (blk_cell B_gr.out 3).trans rfl
      have x_gr_4 : w9.cell? ⟨gr, 4, none⟩ = some (.bool b4) := (blk_cell B_gr.out 4).trans rfl
      have x_gr_5 : w9.cell? ⟨gr, 5, none⟩ = some (.bool b5) := (blk_cell B_gr.out 5).trans rfl
      refine bodyPost_ret (v := .agg #[.bool b0, .bool b1, .bool b2, .bool b3, .bool b4, .bool b5]) (by simp [results, Try.results68, go_sem, x_gr_0, x_gr_1, x_gr_2, x_gr_3, x_gr_4, x_gr_5]) rfl ⟨⟨b0, b1, b2, b3, b4, b5, rfl, FIN.out.symm⟩, HB.out⟩
    | true =>
      have x_gb_0 : wr.cell? ⟨gb, 0, none⟩ = some (.int .i64 a0) := (blk_cell B_gb.out 0).trans rfl
      have x_gb_1 : wr.cell? ⟨gb, 1, none⟩ = some (.int .i64 a1) := (blk_cell B_gb.out 1).trans rfl
      have x_gb_2 : wr.cell? ⟨gb, 2, none⟩ = some (.slice A l.length c) := (blk_cell B_gb.out 2).trans rfl
      obtain ⟨hcn, hcl⟩ := CT.out rfl
      have CN := Aside0.mk hcn
      have CL := Aside0.mk hcl
      clear CT CF hcn hcl
      obtain ⟨s0, hs0⟩ : ∃ s0 : List Bool, s0 = [b0, b1, b2, b3, b4, b5] := ⟨_, rfl⟩
      have L0 := Aside0.mk (show s0.length = 6 by rw [hs0]; rfl)
      have S0 := Aside0.mk hs0
      rw [← hs0] at CN CL
      have PQ := Aside0.mk (show passC mk l (s0, false) = passC mk (l.drop 0) ([b0, b1, b2, b3, b4, b5], false) by rw [hs0]; rfl)
      clear hs0
      go_wp2
      go_loopg [6, 14] l.length (fun gg s6 s14 wr => ∃ (kk : Nat) (b0 b1 b2 b3 b4 b5 ag : Bool), kk ≤ l.length ∧ l.length - kk ≤ gg ∧ s14 = .int .i64 kk ∧ s6 = .bool ag ∧ Aside0 (passC mk l (s0, false) = passC mk (l.drop kk) ([b0, b1, b2, b3, b4, b5], ag)) ∧ Aside0 (cntF [b0, b1, b2, b3, b4, b5] ≤ cntF s0 ∧ (ag = true → cntF [b0, b1, b2, b3, b4, b5] < cntF s0)) ∧ Aside0 (wr.heap[gb]? = some (.cells #[.int .i64 a0, .int .i64 a1, .slice A l.length c] 30 (0, 0))) ∧ Aside0 (wr.heap[gr]? = some (.cells #[.bool false, .bool false, .bool false, .bool false, .bool false, .bool false] 54 (0, 0))) ∧ Aside0 (wr.heap[gs]? = some (.cells #[.bool b0, .bool b1, .bool b2, .bool b3, .bool b4, .bool b5] 54 (0, 0))) ∧ Aside0 (Below w.heap.size w wr))
      case atStart => exact ⟨0, _, _, _, _, _, _, false, Nat.zero_le _, by omega, rfl, rfl, PQ, ⟨by rw [S0.out]; exact Nat.le_refl _, fun h => by cases h⟩, B_gb, B_gr, B_gs, HB⟩
      case round =>
        clear B_gb B_gr B_gs HB PQ
        obtain ⟨kk, b0, b1, b2, b3, b4, b5, ag, hkk, hg, rfl, rfl, PQ, CB, B_gb, B_gr, B_gs, HB⟩ := hrel
        by_cases hlt : kk < l.length
        · have hd : decide (kk < l.length) = true := decide_eq_true hlt
          obtain ⟨ad, A1, c1, e, hx0, hx1, hl1, hi1⟩ := at_T47 HR.out (kk : Int) (by omega) (by omega)
          subst e
          replace hx0 := (HB.out.cell (World.block_lt_of_cell? w _ hx0)).trans hx0
          replace hx1 := (HB.out.cell (World.block_lt_of_cell? w _ hx1)).trans hx1
          have hx2 : wr.cell? (ad.add (kk * 2)) = some (.int .i64 (rd_T47 l kk).f0) := by simpa using hx0
          have hx3 : wr.cell? ⟨(ad.add (kk * 2)).block, (ad.add (kk * 2)).off + 1, none⟩ = some (.slice A1 (rd_T47 l kk).f1.length c1) := by simpa using hx1
          clear hx0 hx1
          have HI := Aside0.mk hi1
          have HL := Aside0.mk hl1
          have L := Aside0.mk hlt
          have OK := Aside0.mk (HOK.out kk hlt)
          have PD := Aside0.mk (show passC mk (l.drop kk) ([b0, b1, b2, b3, b4, b5], ag) = passC mk (l.drop (kk + 1)) (stepC mk (rd_T47 l kk) ([b0, b1, b2, b3, b4, b5], ag)) by rw [getD_drop l kk z47 hlt]; rfl)
          clear hi1 hl1
          generalize rd_T47 l kk = y at hx2 hx3 HI HL OK PD
          go_upto_region 8 with (first | ((with_reducible refine gate_dst (N := 8) rfl ?_); refine box_event ?hg (N := 8) ?hd (cs := #[.int .i64 0, .slice none 0 0]) (t := 47) ?hr ?_; (case hd => rfl); (case hg => rfl); (case hr => first | (go_simp; done) | (go_simp; rfl)); intro gc hg_ w5 hbox_ hb_; have GE_gc := Aside0.mk (show w.heap.size ≤ gc by rw [hg_]; exact below_size (by repeat (first | (with_reducible first | exact HB.out | apply below_alloc | apply pw_below_drewN | apply below_drew1) | exact HB.out))); have NE_gb_gc := Aside0.mk (show gb ≠ gc by rw [hg_]; exact Nat.ne_of_lt (blk_lt (by (with_reducible repeat (first | refine blk_drewN ?_ _ | refine blk_drew ?_ | refine blk_alloc ?_ _)); exact B_gb.out))); have NE_gr_gc := Aside0.mk (show gr ≠ gc by rw [hg_]; exact Nat.ne_of_lt (blk_lt (by (with_reducible repeat (first | refine blk_drewN ?_ _ | refine blk_drew ?_ | refine blk_alloc ?_ _)); exact B_gr.out))); have NE_gs_gc := Aside0.mk (show gs ≠ gc by rw [hg_]; exact Nat.ne_of_lt (blk_lt (by (with_reducible repeat (first | refine blk_drewN ?_ _ | refine blk_drew ?_ | refine blk_alloc ?_ _)); exact B_gs.out))); have n0_ := Aside0.mk (below_step (by repeat (first | (with_reducible first | exact HB.out | apply below_alloc | apply pw_below_drewN | apply below_drew1) | exact HB.out)) hb_); have n_gb := Aside0.mk (blk_below (by (with_reducible repeat (first | refine blk_drewN ?_ _ | refine blk_drew ?_ | refine blk_alloc ?_ _)); exact B_gb.out) hb_); have n_gr := Aside0.mk (blk_below (by (with_reducible repeat (first | refine blk_drewN ?_ _ | refine blk_drew ?_ | refine blk_alloc ?_ _)); exact B_gr.out) hb_); have n_gs := Aside0.mk (blk_below (by (with_reducible repeat (first | refine blk_drewN ?_ _ | refine blk_drew ?_ | refine blk_alloc ?_ _)); exact B_gs.out) hb_); clear HB B_gb B_gr B_gs; have HB := n0_; have B_gb := n_gb; have B_gr := n_gr; have B_gs := n_gs; clear n0_ n_gb n_gr n_gs; have B_gc := Aside0.mk hbox_; clear hb_ hbox_ hg_; have x_gc_0 : w5.cell? ⟨gc, 0, none⟩ = some (.int .i64 0) := (blk_cell B_gc.out 0).trans rfl; have f_gc_0 := blk_frozen B_gc.out 0; have x_gc_1 : w5.cell? ⟨gc, 1, none⟩ = some (.slice none 0 0) := (blk_cell B_gc.out 1).trans rfl; have f_gc_1 := blk_frozen B_gc.out 1))
          obtain ⟨w6, hw_⟩ : ∃ w_ : World, w_ = ((w5.setCell ⟨gc, 0, none⟩ (.int .i64 y.f0)).setCell ⟨gc, 1, none⟩ (.slice A1 y.f1.length c1)) := ⟨_, rfl⟩
          rw [← hw_]
          clear x_gc_0 f_gc_0 x_gc_1 f_gc_1
          have m0_ := Aside0.mk (show Below w.heap.size w w6 by rw [hw_]; exact (below_set (below_set HB.out GE_gc.out) GE_gc.out))
          have m_gb := Aside0.mk (show w6.heap[gb]? = some (.cells #[.int .i64 a0, .int .i64 a1, .slice (some ad) l.length c] 30 (0, 0)) by rw [hw_]; exact (blk_far (blk_far B_gb.out NE_gb_gc.out _) NE_gb_gc.out _))
          have m_gr := Aside0.mk (show w6.heap[gr]? = some (.cells #[.bool false, .bool false, .bool false, .bool false, .bool false, .bool false] 54 (0, 0)) by rw [hw_]; exact (blk_far (blk_far B_gr.out NE_gr_gc.out _) NE_gr_gc.out _))
          have m_gs := Aside0.mk (show w6.heap[gs]? = some (.cells #[.bool b0, .bool b1, .bool b2, .bool b3, .bool b4, .bool b5] 54 (0, 0)) by rw [hw_]; exact (blk_far (blk_far B_gs.out NE_gs_gc.out _) NE_gs_gc.out _))
          have m_gc := Aside0.mk (show w6.heap[gc]? = some (.cells #[.int .i64 y.f0, .slice A1 y.f1.length c1] 47 (0, 0)) by rw [hw_]; exact (blk_put (cs := #[.int .i64 y.f0, .slice none 0 0]) (blk_put (cs := #[.int .i64 0, .slice none 0 0]) B_gc.out 0 _ rfl) 1 _ rfl))
          clear HB hw_ B_gb B_gr B_gs B_gc
          have HB := m0_
          have B_gb := m_gb
          have B_gr := m_gr
          have B_gs := m_gs
          have B_gc := m_gc
          clear m0_ m_gb m_gr m_gs m_gc
          clear hx2 hx3
          have x_gs_0 : w6.cell? ⟨gs, 0, none⟩ = some (.bool b0) := (blk_cell B_gs.out 0).trans rfl
          have x_gs_1 : w6.cell? ⟨gs, 1, none⟩ = some (.bool b1) := (blk_cell B_gs.out 1).trans rfl
          have x_gs_2 : w6.cell? ⟨gs, 2, none⟩ = some (.bool b2) := (blk_cell B_gs.out 2).trans rfl
          have x_gs_3 : w6.cell? ⟨gs, 3, none⟩ = some (.bool b3) := (blk_cell B_gs.out 3).trans rfl
          have x_gs_4 : w6.cell? ⟨gs, 4, none⟩ = some (.bool b4) := (blk_cell B_gs.out 4).trans rfl
          have x_gs_5 : w6.cell? ⟨gs, 5, none⟩ = some (.bool b5) := (blk_cell B_gs.out 5).trans rfl
          have x_gc_0 : w6.cell? ⟨gc, 0, none⟩ = some (.int .i64 y.f0) := (blk_cell B_gc.out 0).trans rfl
          have x_gc_1 : w6.cell? ⟨gc, 1, none⟩ = some (.slice A1 y.f1.length c1) := (blk_cell B_gc.out 1).trans rfl
          have hy0 : 0 ≤ y.f0 := OK.out.1.1
          have hy1 : y.f0 < 6 := OK.out.1.2
          have hyn : y.f0.toNat < 6 := by omega
          have hcx : w6.cell? ⟨gs, y.f0.toNat, none⟩ = some (.bool ([b0, b1, b2, b3, b4, b5].getD y.f0.toNat false)) := (blk_cell B_gs.out y.f0.toNat).trans (bools_get b0 b1 b2 b3 b4 b5 y.f0.toNat hyn)
          have SD := Aside0.mk (show stepC mk y ([b0, b1, b2, b3, b4, b5], ag) = if (![b0, b1, b2, b3, b4, b5].getD y.f0.toNat false && mk y [b0, b1, b2, b3, b4, b5]) = true then ([b0, b1, b2, b3, b4, b5].set y.f0.toNat true, true) else ([b0, b1, b2, b3, b4, b5], ag) from rfl)
          have GD := Aside0.mk (show ∀ v, [b0, b1, b2, b3, b4, b5].getD y.f0.toNat false = v → [b0, b1, b2, b3, b4, b5].getD y.f0.toNat false = v from fun _ h => h)
          cases hv : [b0, b1, b2, b3, b4, b5].getD y.f0.toNat false with
          | true =>
            rw [hv] at hcx SD
            have PN := Aside0.mk (show passC mk l (s0, false) = passC mk (l.drop (kk + 1)) ([b0, b1, b2, b3, b4, b5], ag) by rw [PQ.out, PD.out, SD.out]; rfl)
            clear hv
            go_wp2
            go_roundg (l.length - (kk + 1))
            case measure => have := L.out; omega
            case rel => exact ⟨kk + 1, _, _, _, _, _, _, ag, by have := L.out; omega, by omega, by go_num, rfl, PN, CB, B_gb, B_gr, B_gs, HB⟩
          | false =>
            rw [hv] at hcx SD
            have VF := Aside0.mk hv
            have hcall := HP.out w6 y A1 c1 b0 b1 b2 b3 b4 b5 HB.out HL.out (Kd.C_below HI.out HB.out) OK.out
            clear hv
            cases hm : mk y [b0, b1, b2, b3, b4, b5] with
            | false =>
              rw [hm] at hcall SD
              have PN := Aside0.mk (show passC mk l (s0, false) = passC mk (l.drop (kk + 1)) ([b0, b1, b2, b3, b4, b5], ag) by rw [PQ.out, PD.out, SD.out]; rfl)
              clear hm
              go_wp2_with fail
              refine hcall.mono ?_
              rintro e w7 ⟨rfl, hb_⟩
              clear hcall hcx
              clear x_gs_0 x_gs_1 x_gs_2 x_gs_3 x_gs_4 x_gs_5 x_gc_0 x_gc_1
              have n0_ := Aside0.mk (below_step (by repeat (first | (with_reducible first | exact HB.out | apply below_alloc | apply pw_below_drewN | apply below_drew1) | exact HB.out)) hb_)
              have n_gb := Aside0.mk (blk_below (by (with_reducible repeat (first | refine blk_drewN ?_ _ | refine blk_drew ?_ | refine blk_alloc ?_ _)); exact B_gb.out) hb_)
              have n_gr := Aside0.mk (blk_below (by (with_reducible repeat (first | refine blk_drewN ?_ _ | refine blk_drew ?_ | refine blk_alloc ?_ _)); exact B_gr.out) hb_)
              have n_gs := Aside0.mk (blk_below (by (with_reducible repeat (first | refine blk_drewN ?_ _ | refine blk_drew ?_ | refine blk_alloc ?_ _)); exact B_gs.out) hb_)
              have n_gc := Aside0.mk (blk_below (by (with_reducible repeat (first | refine blk_drewN ?_ _ | refine blk_drew ?_ | refine blk_alloc ?_ _)); exact B_gc.out) hb_)
              clear HB B_gb B_gr B_gs B_gc
              have HB := n0_
              have B_gb := n_gb
              have B_gr := n_gr
              have B_gs := n_gs
              have B_gc := n_gc
              clear n0_ n_gb n_gr n_gs n_gc
              clear hb_
              go_wp2
              go_roundg (l.length - (kk + 1))
              case measure => have := L.out; omega
              case rel => exact ⟨kk + 1, _, _, _, _, _, _, ag, by have := L.out; omega, by omega, by go_num, rfl, PN, CB, B_gb, B_gr, B_gs, HB⟩
            | true =>
              rw [hm] at hcall SD
              obtain ⟨d0, d1, d2, d3, d4, d5, hset⟩ := six ([b0, b1, b2, b3, b4, b5].set y.f0.toNat true) (by rw [List.length_set]; rfl)
              have ST := Aside0.mk hset
              have PN := Aside0.mk (show passC mk l (s0, false) = passC mk (l.drop (kk + 1)) ([d0, d1, d2, d3, d4, d5], true) by rw [PQ.out, PD.out, SD.out, ← hset]; rfl)
              have CB2 := Aside0.mk (show cntF [d0, d1, d2, d3, d4, d5] ≤ cntF s0 ∧ (true = true → cntF [d0, d1, d2, d3, d4, d5] < cntF s0) by have h1 := cntF_set [b0, b1, b2, b3, b4, b5] y.f0.toNat hyn VF.out; rw [hset] at h1; have h2 := CB.out.1; exact ⟨by omega, fun _ => by omega⟩)
              clear hm hset
              go_wp2_with fail
              refine hcall.mono ?_
              rintro e w7 ⟨rfl, hb_⟩
              clear hcall hcx
              clear x_gs_0 x_gs_1 x_gs_2 x_gs_3 x_gs_4 x_gs_5 x_gc_0 x_gc_1
              have n0_ := Aside0.mk (below_step (by repeat (first | (with_reducible first | exact HB.out | apply below_alloc | apply pw_below_drewN | apply below_drew1) | exact HB.out)) hb_)
              have n_gb := Aside0.mk (blk_below (by (with_reducible repeat (first | refine blk_drewN ?_ _ | refine blk_drew ?_ | refine blk_alloc ?_ _)); exact B_gb.out) hb_)
              have n_gr := Aside0.mk (blk_below (by (with_reducible repeat (first | refine blk_drewN ?_ _ | refine blk_drew ?_ | refine blk_alloc ?_ _)); exact B_gr.out) hb_)
              have n_gs := Aside0.mk (blk_below (by (with_reducible repeat (first | refine blk_drewN ?_ _ | refine blk_drew ?_ | refine blk_alloc ?_ _)); exact B_gs.out) hb_)
              have n_gc := Aside0.mk (blk_below (by (with_reducible repeat (first | refine blk_drewN ?_ _ | refine blk_drew ?_ | refine blk_alloc ?_ _)); exact B_gc.out) hb_)
              clear HB B_gb B_gr B_gs B_gc
              have HB := n0_
              have B_gb := n_gb
              have B_gr := n_gr
              have B_gs := n_gs
              have B_gc := n_gc
              clear n0_ n_gb n_gr n_gs n_gc
              clear hb_
              have x_gc_0 : w7.cell? ⟨gc, 0, none⟩ = some (.int .i64 y.f0) := (blk_cell B_gc.out 0).trans rfl
              have x_gc_1 : w7.cell? ⟨gc, 1, none⟩ = some (.slice A1 y.f1.length c1) := (blk_cell B_gc.out 1).trans rfl
              have hcy : w7.cell? ⟨gs, y.f0.toNat, none⟩ = some (.bool ([b0, b1, b2, b3, b4, b5].getD y.f0.toNat false)) := (blk_cell B_gs.out y.f0.toNat).trans (bools_get b0 b1 b2 b3 b4 b5 y.f0.toNat hyn)
              rw [VF.out] at hcy
              have hfy := blk_frozen B_gs.out y.f0.toNat
              go_wp2
              obtain ⟨w8, hw_⟩ : ∃ w_ : World, w_ = (w7.setCell ⟨gs, y.f0.toNat, none⟩ (.bool true)) := ⟨_, rfl⟩
              rw [← hw_]
              clear x_gc_0 x_gc_1
              have m0_ := Aside0.mk (show Below w.heap.size w w8 by rw [hw_]; exact (below_set HB.out GE_gs.out))
              have m_gb := Aside0.mk (show w8.heap[gb]? = some (.cells #[.int .i64 a0, .int .i64 a1, .slice (some ad) l.length c] 30 (0, 0)) by rw [hw_]; exact (blk_far B_gb.out NE_gb_gs.out _))
              have m_gr := Aside0.mk (show w8.heap[gr]? = some (.cells #[.bool false, .bool false, .bool false, .bool false, .bool false, .bool false] 54 (0, 0)) by rw [hw_]; exact (blk_far B_gr.out NE_gr_gs.out _))
              have m_gs := Aside0.mk (show w8.heap[gs]? = some (.cells #[.bool d0, .bool d1, .bool d2, .bool d3, .bool d4, .bool d5] 54 (0, 0)) by rw [hw_]; exact blk_put (cs := #[.bool b0, .bool b1, .bool b2, .bool b3, .bool b4, .bool b5]) B_gs.out y.f0.toNat _ (bools_set b0 b1 b2 b3 b4 b5 y.f0.toNat d0 d1 d2 d3 d4 d5 ST.out))
              have m_gc := Aside0.mk (show w8.heap[gc]? = some (.cells #[.int .i64 y.f0, .slice A1 y.f1.length c1] 47 (0, 0)) by rw [hw_]; exact (blk_far B_gc.out (Ne.symm NE_gs_gc.out) _))
              clear HB hw_ B_gb B_gr B_gs B_gc
              have HB := m0_
              have B_gb := m_gb
              have B_gr := m_gr
              have B_gs := m_gs
              have B_gc := m_gc
              clear m0_ m_gb m_gr m_gs m_gc
              go_roundg (l.length - (kk + 1))
              case measure => have := L.out; omega
              case rel => exact ⟨kk + 1, _, _, _, _, _, _, true, by have := L.out; omega, by omega, by go_num, rfl, PN, ⟨CB2.out.1, fun _ => CB2.out.2 trivial⟩, B_gb, B_gr, B_gs, HB⟩
        · have hd : decide (kk < l.length) = false := decide_eq_false hlt
          have PE := Aside0.mk (show passC mk l (s0, false) = ([b0, b1, b2, b3, b4, b5], ag) by rw [PQ.out, List.drop_of_length_le (by omega)]; rfl)
          clear hlt
          cases n with
          | zero => exact absurd CN.out (Nat.not_lt_zero _)
          | succ n =>
            have FN := Aside0.mk (show closedF mk l = if ag = true then closeN mk l n [b0, b1, b2, b3, b4, b5] else [b0, b1, b2, b3, b4, b5] by rw [← CL.out]; show (if (passC mk l (s0, false)).2 = true then closeN mk l n (passC mk l (s0, false)).1 else (passC mk l (s0, false)).1) = _; rw [PE.out])
            go_wp2
            go_roundg n
            case measure => omega
            case rel => exact ⟨n, _, _, _, _, _, _, ag, rfl, Nat.le_refl _, ⟨fun h => ⟨by have h1 := CB.out.2 h; have h2 := CN.out; omega, by rw [FN.out, if_pos h]⟩⟩, ⟨fun h => by rw [FN.out, if_neg (by rw [h]; exact Bool.false_ne_true)]⟩, B_gb, B_gr, B_gs, HB⟩
end Go.Proofs.Ytohbdjdjjbieeaa.P
namespace Go.Proofs.Ytohbdjdjjbieeaa.P
open Go.RowKit Go.Proofs.YtohbdjdjjbieeaaW.PrintWords Go.Proofs.YtohbdjdjjbieeaaW.PrintLast Go.Proofs.YtohbdjdjjbieeaaW.PrintMore
set_option linter.unusedVariables false
set_option linter.unusedSimpArgs false
theorem goodG_ok {nons toks : Int} {l : List S47} (h : goodG nons toks l = true) (j : Nat) (hj : j < l.length) : okR nons toks (rd_T47 l j) = true := by
  have hr : rulesB nons toks l l.length = true := by
    unfold goodG at h
    simp only [Bool.and_eq_true] at h
    exact h.2.2.2
  cases hq : okR nons toks (rd_T47 l j) with
  | true => rfl
  | false => rw [rulesB_no nons toks l j l.length hj (.inl hq)] at hr; cases hr
theorem goodG_nons {nons toks : Int} {l : List S47} (h : goodG nons toks l = true) : (1 ≤ nons ∧ nons ≤ 6) ∧ (1 ≤ toks ∧ toks ≤ 4) ∧ l.length ≤ 16 := by
  unfold goodG at h
  simp only [Bool.and_eq_true, decide_eq_true_eq] at h
  exact ⟨h.1, h.2.1, h.2.2.1⟩
theorem okR_parts {nons toks : Int} {x : S47} (h1 : 1 ≤ nons) (h6 : nons ≤ 6) (h : okR nons toks x = true) : (0 ≤ x.f0 ∧ x.f0 < nons) ∧ x.f1.length ≤ 4 ∧ ∀ j : Nat, j < x.f1.length → wrap64 (-toks) ≤ rd x.f1 j ∧ rd x.f1 j < nons := by
  have hw : wrap64 (nons - 1) = nons - 1 := w64 (by omega) (by omega)
  unfold okR at h
  simp only [Bool.and_eq_true, decide_eq_true_eq, Bool.not_eq_true', List.any_eq_false] at h
  obtain ⟨⟨h2, h3⟩, h4⟩ := h
  rw [hw] at h2
  refine ⟨⟨h2.1, by omega⟩, h3, fun j hj => ?_⟩
  have := h4 (rd x.f1 j) (by unfold rd; rw [List.getD_eq_getElem?_getD, Int.toNat_natCast, List.getElem?_eq_getElem hj]; exact List.getElem_mem hj)
  unfold symB at this
  rw [hw] at this
  simp at this
  exact ⟨this.1, by omega⟩
theorem goodG_okR6 {nons toks : Int} {l : List S47} (h : goodG nons toks l = true) (j : Nat) (hj : j < l.length) : okR6 (rd_T47 l j) := by
  have hn := (goodG_nons h).1
  obtain ⟨h1, _, h2⟩ := okR_parts hn.1 hn.2 (goodG_ok h j hj)
  exact ⟨⟨h1.1, by omega⟩, fun i hi => by have := (h2 i hi).2; omega⟩
set_option maxHeartbeats 2000000 in
theorem pred_nul (b0 b1 b2 b3 b4 b5 : Bool) (B : Nat) (w : World) (hB : w.heap[B]? = some (.cells #[.bool b0, .bool b1, .bool b2, .bool b3, .bool b4, .bool b5] 54 (0, 0))) :
    PredID 71 #[.pointer (some ⟨B, 0, none⟩)] (fun x => x < 6) (fun x => decide (x < 0) || ![b0, b1, b2, b3, b4, b5].getD x.toNat false) w := fun W x hb hx => by
  have hB' := blk_below hB hb
  clear hb hB
  show Calls Try.prog 71 #[.int .i64 x, .pointer (some ⟨B, 0, none⟩)] W fun e w' => e = .returned (.bool (decide (x < 0) || ![b0, b1, b2, b3, b4, b5].getD x.toNat false)) ∧ Below W.heap.size W w'
  by_cases h0 : x < 0
  · have d1 : decide (x < 0) = true := decide_eq_true h0
    have d2 : decide (0 ≤ x) = false := decide_eq_false (by omega)
    clear h0 hB'
    go_enter Try.func71, Try.ntmps71
    go_wp2
    go_ret
    exact ⟨by simp [d1, d2], Below.refl _ _⟩
  · have d1 : decide (x < 0) = false := decide_eq_false h0
    have d2 : decide (0 ≤ x) = true := decide_eq_true (by omega)
    have h1 : 0 ≤ x := by omega
    have hn : x.toNat < 6 := by omega
    have hc : W.cell? ⟨B, x.toNat, none⟩ = some (.bool ([b0, b1, b2, b3, b4, b5].getD x.toNat false)) := (blk_cell hB' x.toNat).trans (bools_get b0 b1 b2 b3 b4 b5 x.toNat hn)
    have D := Aside0.mk (And.intro d1 d2)
    clear hB' h0
    generalize [b0, b1, b2, b3, b4, b5].getD x.toNat false = v at hc ⊢
    go_enter Try.func71, Try.ntmps71
    go_wp2
    go_ret
    exact ⟨by cases v <;> rfl, Below.refl _ _⟩
set_option maxHeartbeats 2000000 in
theorem pred_pro (b0 b1 b2 b3 b4 b5 : Bool) (B : Nat) (w : World) (hB : w.heap[B]? = some (.cells #[.bool b0, .bool b1, .bool b2, .bool b3, .bool b4, .bool b5] 54 (0, 0))) :
    PredID 73 #[.pointer (some ⟨B, 0, none⟩)] (fun x => x < 6) (fun x => decide (0 ≤ x) && ![b0, b1, b2, b3, b4, b5].getD x.toNat false) w := fun W x hb hx => by
  have hB' := blk_below hB hb
  clear hb hB
  show Calls Try.prog 73 #[.int .i64 x, .pointer (some ⟨B, 0, none⟩)] W fun e w' => e = .returned (.bool (decide (0 ≤ x) && ![b0, b1, b2, b3, b4, b5].getD x.toNat false)) ∧ Below W.heap.size W w'
  by_cases h0 : x < 0
  · have d1 : decide (x < 0) = true := decide_eq_true h0
    have d2 : decide (0 ≤ x) = false := decide_eq_false (by omega)
    clear h0 hB'
    go_enter Try.func73, Try.ntmps73
    go_wp2
    go_ret
    exact ⟨by simp [d1, d2], Below.refl _ _⟩
  · have d1 : decide (x < 0) = false := decide_eq_false h0
    have d2 : decide (0 ≤ x) = true := decide_eq_true (by omega)
    have h1 : 0 ≤ x := by omega
    have hn : x.toNat < 6 := by omega
    have hc : W.cell? ⟨B, x.toNat, none⟩ = some (.bool ([b0, b1, b2, b3, b4, b5].getD x.toNat false)) := (blk_cell hB' x.toNat).trans (bools_get b0 b1 b2 b3 b4 b5 x.toNat hn)
    have D := Aside0.mk (And.intro d1 d2)
    clear hB' h0
    generalize [b0, b1, b2, b3, b4, b5].getD x.toNat false = v at hc ⊢
    go_enter Try.func73, Try.ntmps73
    go_wp2
    go_ret
    exact ⟨by cases v <;> rfl, Below.refl _ _⟩
def nulP (s : List Bool) (x : Int) : Bool := decide (x < 0) || !s.getD x.toNat false
def proP (s : List Bool) (x : Int) : Bool := decide (0 ≤ x) && !s.getD x.toNat false
def groP (s : List Bool) (x : Int) : Bool := decide (x < 0) || s.getD x.toNat false
def mkNul (r : S47) (s : List Bool) : Bool := !(r.f1.any (nulP s))
def mkPro (r : S47) (s : List Bool) : Bool := !(r.f1.any (proP s))
def mkGro (pr : List Bool) (r : S47) (s : List Bool) : Bool := !(r.f1.any (proP pr)) && r.f1.any (groP s)
set_option maxHeartbeats 2000000 in
theorem predC_mkPro (w : World) : PredC 72 #[] mkPro w := fun W x A c b0 b1 b2 b3 b4 b5 hb hc hr ok => by
  show Calls Try.prog 72 #[.agg #[.int .i64 x.f0, .slice A x.f1.length c], .agg #[.bool b0, .bool b1, .bool b2, .bool b3, .bool b4, .bool b5]] W fun e w' => e = .returned (.bool (mkPro x [b0, b1, b2, b3, b4, b5])) ∧ Below W.heap.size W w'
  have eg : ∀ args w, (callFunc 73 args).run Try.prog w = .ok (.enter 73 args) w := enters_of Try.func73 (by kernel_rfl) rfl
  have CF := fun (V : World) (B : Nat) (hV : Below W.heap.size W V) (hB : V.heap[B]? = some (.cells #[.bool b0, .bool b1, .bool b2, .bool b3, .bool b4, .bool b5] 54 (0, 0))) =>
    containsFunc_intD _ #[.pointer (some ⟨B, 0, none⟩)] eg (proP [b0, b1, b2, b3, b4, b5]) A c x.f1 V (Kd.C_below hr hV) hc (fun x => x < 6) ok.2 (pred_pro b0 b1 b2 b3 b4 b5 B V hB)
  unfold mkPro
  have HB := Aside0.mk (Below.refl W.heap.size W)
  clear hb hr ok eg
  generalize x.f1.any (proP [b0, b1, b2, b3, b4, b5]) = v at CF ⊢
  go_enter Try.func72, Try.ntmps72
  go_wp2_with (first | ((with_reducible refine gate_dst (N := 2) rfl ?_); refine box_event ?hg (N := 2) ?hd (cs := #[.int .i64 x.f0, .slice A x.f1.length c]) (t := 47) ?hr ?_; (case hd => rfl); (case hg => rfl); (case hr => first | (go_simp; done) | (go_simp; rfl)); intro gr hg_ w1 hbox_ hb_; have GE_gr := Aside0.mk (show W.heap.size ≤ gr by rw [hg_]; exact below_size (by repeat (first | (with_reducible first | exact HB.out | apply below_alloc | apply pw_below_drewN | apply below_drew1) | exact HB.out))); have n0_ := Aside0.mk (below_step (by repeat (first | (with_reducible first | exact HB.out | apply below_alloc | apply pw_below_drewN | apply below_drew1) | exact HB.out)) hb_); clear HB; have HB := n0_; clear n0_; have B_gr := Aside0.mk hbox_; clear hb_ hbox_ hg_; have x_gr_0 : w1.cell? ⟨gr, 0, none⟩ = some (.int .i64 x.f0) := (blk_cell B_gr.out 0).trans rfl; have x_gr_1 : w1.cell? ⟨gr, 1, none⟩ = some (.slice A x.f1.length c) := (blk_cell B_gr.out 1).trans rfl) | ((with_reducible refine gate_dst (N := 3) rfl ?_); refine box_event ?hg (N := 3) ?hd (cs := #[.bool b0, .bool b1, .bool b2, .bool b3, .bool b4, .bool b5]) (t := 54) ?hr ?_; (case hd => rfl); (case hg => rfl); (case hr => first | (go_simp; done) | (go_simp; rfl)); intro gs hg_ w2 hbox_ hb_; have GE_gs := Aside0.mk (show W.heap.size ≤ gs by rw [hg_]; exact below_size (by repeat (first | (with_reducible first | exact HB.out | apply below_alloc | apply pw_below_drewN | apply below_drew1) | exact HB.out))); have NE_gr_gs := Aside0.mk (show gr ≠ gs by rw [hg_]; exact Nat.ne_of_lt (blk_lt (by (with_reducible repeat (first | refine blk_drewN ?_ _ | refine blk_drew ?_ | refine blk_alloc ?_ _)); exact B_gr.out))); clear x_gr_0 x_gr_1; have n0_ := Aside0.mk (below_step (by repeat (first | (with_reducible first | exact HB.out | apply below_alloc | apply pw_below_drewN | apply below_drew1) | exact HB.out)) hb_); have n_gr := Aside0.mk (blk_below (by (with_reducible repeat (first | refine blk_drewN ?_ _ | refine blk_drew ?_ | refine blk_alloc ?_ _)); exact B_gr.out) hb_); clear HB B_gr; have HB := n0_; have B_gr := n_gr; clear n0_ n_gr; have B_gs := Aside0.mk hbox_; clear hb_ hbox_ hg_; have x_gr_0 : w2.cell? ⟨gr, 0, none⟩ = some (.int .i64 x.f0) := (blk_cell B_gr.out 0).trans rfl; have x_gr_1 : w2.cell? ⟨gr, 1, none⟩ = some (.slice A x.f1.length c) := (blk_cell B_gr.out 1).trans rfl) | (go_at_call 70; (with_reducible refine (CF _ gs HB.out B_gs.out).mono ?_); rintro e w3 ⟨rfl, hb_⟩; clear x_gr_0 x_gr_1; have n0_ := Aside0.mk (below_step (by repeat (first | (with_reducible first | exact HB.out | apply below_alloc | apply pw_below_drewN | apply below_drew1) | exact HB.out)) hb_); have n_gr := Aside0.mk (blk_below (by (with_reducible repeat (first | refine blk_drewN ?_ _ | refine blk_drew ?_ | refine blk_alloc ?_ _)); exact B_gr.out) hb_); have n_gs := Aside0.mk (blk_below (by (with_reducible repeat (first | refine blk_drewN ?_ _ | refine blk_drew ?_ | refine blk_alloc ?_ _)); exact B_gs.out) hb_); clear HB B_gr B_gs; have HB := n0_; have B_gr := n_gr; have B_gs := n_gs; clear n0_ n_gr n_gs; clear hb_))
  go_ret
  exact ⟨rfl, HB.out⟩
set_option maxHeartbeats 2000000 in
theorem productive_calls (a0 a1 : Int) (A : Option Addr) (c : Nat) (l : List S47) (w : World) (hr : Kd.C k47 w A l.length l) (hc : l.length ≤ c) (hok : ∀ j : Nat, j < l.length → okR6 (rd_T47 l j)) :
    Calls Try.prog 47 #[.agg #[.int .i64 a0, .int .i64 a1, .slice A l.length c]] w fun e w' => (∃ b0 b1 b2 b3 b4 b5, e = .returned (.agg #[.bool b0, .bool b1, .bool b2, .bool b3, .bool b4, .bool b5]) ∧ closedF mkPro l = [b0, b1, b2, b3, b4, b5]) ∧ Below w.heap.size w w' := by
  have hu := Try.underlying30
  have eg : ∀ args w, (callFunc 72 args).run Try.prog w = .ok (.enter 72 args) w := enters_of Try.func72 (by kernel_rfl) rfl
  have CL := fun (W : World) (hW : Below w.heap.size w W) => closed_calls 72 #[] eg mkPro a0 a1 A c l W (Kd.C_below hr hW) hc hok (predC_mkPro W)
  have HB := Aside0.mk (Below.refl w.heap.size w)
  clear hr hok eg
  go_enter Try.func47, Try.ntmps47
  go_wp2_with (first | ((with_reducible refine gate_dst (N := 1) rfl ?_); refine box_event ?hg (N := 1) ?hd (cs := #[.int .i64 a0, .int .i64 a1, .slice A l.length c]) (t := 30) ?hr ?_; (case hd => rfl); (case hg => rfl); (case hr => first | (go_simp; done) | (go_simp; rfl)); intro gb hg_ w1 hbox_ hb_; have GE_gb := Aside0.mk (show w.heap.size ≤ gb by rw [hg_]; exact below_size (by repeat (first | (with_reducible first | exact HB.out | apply below_alloc | apply pw_below_drewN | apply below_drew1) | exact HB.out))); have n0_ := Aside0.mk (below_step (by repeat (first | (with_reducible first | exact HB.out | apply below_alloc | apply pw_below_drewN | apply below_drew1) | exact HB.out)) hb_); clear HB; have HB := n0_; clear n0_; have B_gb := Aside0.mk hbox_; clear hb_ hbox_ hg_; have x_gb_0 : w1.cell? ⟨gb, 0, none⟩ = some (.int .i64 a0) := (blk_cell B_gb.out 0).trans rfl; have x_gb_1 : w1.cell? ⟨gb, 1, none⟩ = some (.int .i64 a1) := (blk_cell B_gb.out 1).trans rfl; have x_gb_2 : w1.cell? ⟨gb, 2, none⟩ = some (.slice A l.length c) := (blk_cell B_gb.out 2).trans rfl) | ((with_reducible refine gate_dst (N := 2) rfl ?_); refine box_event ?hg (N := 2) ?hd (cs := #[.bool false, .bool false, .bool false, .bool false, .bool false, .bool false]) (t := 54) ?hr ?_; (case hd => rfl); (case hg => rfl); (case hr => first | (go_simp; done) | (go_simp; rfl)); intro gr hg_ w2 hbox_ hb_; have GE_gr := Aside0.mk (show w.heap.size ≤ gr by rw [hg_]; exact below_size (by repeat (first | (with_reducible first | exact HB.out | apply below_alloc | apply pw_below_drewN | apply below_drew1) | exact HB.out))); have NE_gb_gr := Aside0.mk (show gb ≠ gr by rw [hg_]; exact Nat.ne_of_lt (blk_lt (by (with_reducible repeat (first | refine blk_drewN ?_ _ | refine blk_drew ?_ | refine blk_alloc ?_ _)); exact B_gb.out))); clear x_gb_0 x_gb_1 x_gb_2; have n0_ := Aside0.mk (below_step (by repeat (first | (with_reducible first | exact HB.out | apply below_alloc | apply pw_below_drewN | apply below_drew1) | exact HB.out)) hb_); have n_gb := Aside0.mk (blk_below (by (with_reducible repeat (first | refine blk_drewN ?_ _ | refine blk_drew ?_ | refine blk_alloc ?_ _)); exact B_gb.out) hb_); clear HB B_gb; have HB := n0_; have B_gb := n_gb; clear n0_ n_gb; have B_gr := Aside0.mk hbox_; clear hb_ hbox_ hg_; have x_gb_0 : w2.cell? ⟨gb, 0, none⟩ = some (.int .i64 a0) := (blk_cell B_gb.out 0).trans rfl; have x_gb_1 : w2.cell? ⟨gb, 1, none⟩ = some (.int .i64 a1) := (blk_cell B_gb.out 1).trans rfl; have x_gb_2 : w2.cell? ⟨gb, 2, none⟩ = some (.slice A l.length c) := (blk_cell B_gb.out 2).trans rfl) | (go_at_call 68; (with_reducible refine (CL _ HB.out).mono ?_); rintro e w3 ⟨⟨b0, b1, b2, b3, b4, b5, rfl, hF⟩, hb_⟩; clear x_gb_0 x_gb_1 x_gb_2; have n0_ := Aside0.mk (below_step (by repeat (first | (with_reducible first | exact HB.out | apply below_alloc | apply pw_below_drewN | apply below_drew1) | exact HB.out)) hb_); have n_gb := Aside0.mk (blk_below (by (with_reducible repeat (first | refine blk_drewN ?_ _ | refine blk_drew ?_ | refine blk_alloc ?_ _)); exact B_gb.out) hb_); have n_gr := Aside0.mk (blk_below (by (with_reducible repeat (first | refine blk_drewN ?_ _ | refine blk_drew ?_ | refine blk_alloc ?_ _)); exact B_gr.out) hb_); clear HB B_gb B_gr; have HB := n0_; have B_gb := n_gb; have B_gr := n_gr; clear n0_ n_gb n_gr; clear hb_; have x_gr_0 : w3.cell? ⟨gr, 0, none⟩ = some (.bool false) := (blk_cell B_gr.out 0).trans rfl; have f_gr_0 := blk_frozen B_gr.out 0; have x_gr_1 : w3.cell? ⟨gr, 1, none⟩ = some (.bool false) := (blk_cell B_gr.out 1).trans rfl; have f_gr_1 := blk_frozen B_gr.out 1; have x_gr_2 : w3.cell? ⟨gr, 2, none⟩ = some (.bool false) := (blk_cell B_gr.out 2).trans rfl; have f_gr_2 := blk_frozen B_gr.out 2; have x_gr_3 : w3.cell? ⟨gr, 3, none⟩ = some (.bool false) := (blk_cell B_gr.out 3).trans rfl; have f_gr_3 := blk_frozen B_gr.out 3; have x_gr_4 : w3.cell? ⟨gr, 4, none⟩ = some (.bool false) := (blk_cell B_gr.out 4).trans rfl; have f_gr_4 := blk_frozen B_gr.out 4; have x_gr_5 : w3.cell? ⟨gr, 5, none⟩ = some (.bool false) := (blk_cell B_gr.out 5).trans rfl; have f_gr_5 := blk_frozen B_gr.out 5; have FF := Aside0.mk hF; clear hF CL))
  obtain ⟨w9, hw_⟩ : ∃ w_ : World, w_ = ((((((w3.setCell ⟨gr, 0, none⟩ (.bool b0)).setCell ⟨gr, 1, none⟩ (.bool b1)).setCell ⟨gr, 2, none⟩ (.bool b2)).setCell ⟨gr, 3, none⟩ (.bool b3)).setCell ⟨gr, 4, none⟩ (.bool b4)).setCell ⟨gr, 5, none⟩ (.bool b5)) := ⟨_, rfl⟩
  rw [← hw_]
  clear x_gr_0 f_gr_0 x_gr_1 f_gr_1 x_gr_2 f_gr_2 x_gr_3 f_gr_3 x_gr_4 f_gr_4 x_gr_5 f_gr_5
  have m0_ := Aside0.mk (show Below w.heap.size w w9 by rw [hw_]; exact (below_set (below_set (below_set (below_set (below_set (below_set HB.out GE_gr.out) GE_gr.out) GE_gr.out) GE_gr.out) GE_gr.out) GE_gr.out))
  have m_gb := Aside0.mk (show w9.heap[gb]? = some (.cells #[.int .i64 a0, .int .i64 a1, .slice A l.length c] 30 (0, 0)) by rw [hw_]; exact (blk_far (blk_far (blk_far (blk_far (blk_far (blk_far B_gb.out NE_gb_gr.out _) NE_gb_gr.out _) NE_gb_gr.out _) NE_gb_gr.out _) NE_gb_gr.out _) NE_gb_gr.out _))
  have m_gr := Aside0.mk (show w9.heap[gr]? = some (.cells #[.bool b0, .bool b1, .bool b2, .bool b3, .bool b4, .bool b5] 54 (0, 0)) by rw [hw_]; exact (blk_put (cs := #[.bool b0, .bool b1, .bool b2, .bool b3, .bool b4, .bool false]) (blk_put (cs := #[.bool b0, .bool b1, .bool b2, .bool b3, .bool false, .bool false]) (blk_put (cs := #[.bool b0, .bool b1, .bool b2, .bool false, .bool false, .bool false]) (blk_put (cs := #[.bool b0, .bool b1, .bool false, .bool false, .bool false, .bool false]) (blk_put (cs := #[.bool b0, .bool false, .bool false, .bool false, .bool false, .bool false]) (blk_put (cs := #[.bool false, .bool false, .bool false, .bool false, .bool false, .bool false]) B_gr.out 0 _ rfl) 1 _ rfl) 2 _ rfl) 3 _ rfl) 4 _ rfl) 5 _ rfl))
  clear HB hw_ B_gb B_gr
  have HB := m0_
  have B_gb := m_gb
  have B_gr := m_gr
  clear m0_ m_gb m_gr
  have x_gr_0 : w9.cell? ⟨gr, 0, none⟩ = some (.bool b0) := (blk_cell B_gr.out 0).trans rfl
  have x_gr_1 : w9.cell? ⟨gr, 1, none⟩ = some (.bool b1) := (blk_cell B_gr.out 1).trans rfl
  have x_gr_2 : w9.cell? ⟨gr, 2, none⟩ = some (.bool b2) := (blk_cell B_gr.out 2).trans rfl
  have x_gr_3 : w9.cell? ⟨gr, 3, none⟩ = some (.bool b3) := (blk_cell B_gr.out 3).trans rfl
  have x_gr_4 : w9.cell? ⟨gr, 4, none⟩ = some (.bool b4) := (blk_cell B_gr.out 4).trans rfl
  have x_gr_5 : w9.cell? ⟨gr, 5, none⟩ = some (.bool b5) := (blk_cell B_gr.out 5).trans rfl
  refine bodyPost_ret (v := .agg #[.bool b0, .bool b1, .bool b2, .bool b3, .bool b4, .bool b5]) (by simp [results, Try.results47, go_sem, x_gr_0, x_gr_1, x_gr_2, x_gr_3, x_gr_4, x_gr_5]) rfl ⟨⟨b0, b1, b2, b3, b4, b5, rfl, FF.out⟩, HB.out⟩
def placesF : Nat → List Bool → List Int
  | _, [] => []
  | i, b :: s => if b = true then (i : Int) :: placesF (i + 1) s else placesF (i + 1) s
def impl_NullableOf.f (a0_0 a0_1 : Int) (l0_2 : List S47) : Option (List Int × Bool) := some (if goodG a0_0 a0_1 l0_2 = true then (placesF 0 (closedF mkNul l0_2), true) else ([], false))
def impl_ProductiveOf.f (a0_0 a0_1 : Int) (l0_2 : List S47) : Option (List Int × Bool) := some (if goodG a0_0 a0_1 l0_2 = true then (placesF 0 (closedF mkPro l0_2), true) else ([], false))
def impl_GrowingOf.f (a0_0 a0_1 : Int) (l0_2 : List S47) : Option (List Int × Bool) := some (if goodG a0_0 a0_1 l0_2 = true then (placesF 0 (closedF (mkGro (closedF mkPro l0_2)) l0_2), true) else ([], false))
end Go.Proofs.Ytohbdjdjjbieeaa.P
namespace Go.Proofs.Ytohbdjdjjbieeaa.P
open Go.RowKit Go.Proofs.YtohbdjdjjbieeaaW.PrintWords Go.Proofs.YtohbdjdjjbieeaaW.PrintLast Go.Proofs.YtohbdjdjjbieeaaW.PrintMore
attribute [local go_sem] max2_int min2_int max_two min_two max_three min_three max_four min_four
set_option linter.unusedVariables false
set_option linter.unusedSimpArgs false
def spec_l1Has.l0 : Nat → Int → List Int → Int → Int → Option (Bool)
  | 0, _, _, _, _ => none
  | k + 1, x1, x7, x8, x9 => if x9 < x8 then (if 0 ≤ x9 then (if x9 < (x7.length : Int) then (if (rd x7 x9) = x1 then (some true) else (spec_l1Has.l0 k x1 x7 x8 (wrap64 (x9 + 1)))) else (none)) else (none)) else (some false)
def spec_l1Has.f (k : Nat) (l0 : List Int) (a1 : Int) : Option (Bool) := spec_l1Has.l0 k a1 l0 (l0.length : Int) 0
theorem spec_l1Has.mono_l : ∀ k, (∀ y0 y1 y2 y3, LeO (spec_l1Has.l0 k y0 y1 y2 y3) (spec_l1Has.l0 (k + 1) y0 y1 y2 y3))
  | 0 => fun _ _ _ _ r h => by simp [spec_l1Has.l0] at h
  | k + 1 => by
    have ih0 := spec_l1Has.mono_l k
    · intro y0 y1 y2 y3
      unfold spec_l1Has.l0
      repeat' first
      | (with_reducible exact ih0 _ _ _ _)
      | (with_reducible exact LeO.refl _)
      | (with_reducible exact LeO.none _)
      | (with_reducible refine LeO.ite ?_ ?_)
      | (with_reducible refine LeO.bind ?_ (fun _ => ?_))
      | exact ih0 _ _ _ _
      | exact LeO.none _
      | refine LeO.ite ?_ ?_
      | refine LeO.bind ?_ (fun _ => ?_)
theorem spec_l1Has.mono : ∀ a0 a1 k, LeO (spec_l1Has.f k a0 a1) (spec_l1Has.f (k + 1) a0 a1) := by
  intro a0 a1 k
  have ih0 := spec_l1Has.mono_l k
  unfold spec_l1Has.f
  repeat' first
      | (with_reducible exact ih0 _ _ _ _)
      | (with_reducible exact LeO.refl _)
      | (with_reducible exact LeO.none _)
      | (with_reducible refine LeO.ite ?_ ?_)
      | (with_reducible refine LeO.bind ?_ (fun _ => ?_))
      | exact ih0 _ _ _ _
      | exact LeO.none _
      | refine LeO.ite ?_ ?_
      | refine LeO.bind ?_ (fun _ => ?_)
set_option maxHeartbeats 8000000 in
set_option maxRecDepth 100000 in
theorem spec_l1Has.calls (k : Nat) (A0 : Option Addr) (c0 : Nat) (l0 : List Int) (a1 : Int) (r : Bool) (w : World) (hr0 : Kd.C (Kd.int .i64) w A0 l0.length l0) (hc0 : l0.length ≤ c0) (h : spec_l1Has.f k l0 a1 = some r) :
    Calls Try.prog 66 #[.slice A0 l0.length c0, .int .i64 a1] w fun e w' => e = .returned (.bool r) ∧ Drawn0 w w' := by
  have HR0 := Aside0.mk hr0
  have HC0 := Aside0.mk hc0
  clear hr0 hc0
  have H : (spec_l1Has.l0 k a1 l0 (l0.length : Int) 0) = some r := h
  clear h
  have H' := Aside0.mk H
  clear H
  go_enter Try.func66, Try.ntmps66
  go_wp2
  go_loopg [9] k (fun kq v9 w' => ∃ (x9_1 : Int), v9 = .int .i64 x9_1 ∧ Aside0 (spec_l1Has.l0 kq a1 l0 (l0.length : Int) x9_1 = some r) ∧ Aside0 (kq ≤ k) ∧ Drawn0 w w')
  case atStart => exact ⟨(0), (by first | rfl | (simp; done) | (simp [*]; done)), H', ⟨Nat.le_refl _⟩, by repeat (first | exact Drawn0.refl _ | apply Drawn0.step)⟩
  case round =>
    clear H'
    try clear p2
    obtain ⟨x9_1, rfl, HA, HK1, ⟨m1, rfl⟩⟩ := hrel
    cases gk with
    | zero => exact absurd HA.out (by simp [spec_l1Has.l0])
    | succ k1 =>
      have H := HA.out
      clear HA
      simp only [spec_l1Has.l0] at H
      by_cases c3 : x9_1 < (l0.length : Int)
      · rw [if_pos c3] at H
        have c3b0 : decide (x9_1 < (l0.length : Int)) = true := decide_eq_true c3
        clear c3
        by_cases c4 : 0 ≤ x9_1
        · rw [if_pos c4] at H
          have c4b0 : decide (0 ≤ x9_1) = true := decide_eq_true c4
          clear c4
          by_cases c5 : x9_1 < (l0.length : Int)
          · rw [if_pos c5] at H
            have c5b0 : decide (x9_1 < (l0.length : Int)) = true := decide_eq_true c5
            clear c5
            by_cases c6 : (rd l0 x9_1) = a1
            · rw [if_pos c6] at H
              have c6b0 : ((rd l0 x9_1) == a1) = true := beq_iff_eq.mpr c6
              have c6b1 : ((rd l0 x9_1) != a1) = false := bne_eq_false_iff_eq.mpr c6
              clear c6
              obtain rfl := Option.some.inj H
              have p101 : 0 ≤ (x9_1 : Int) := of_decide_eq_true (by first | (with_reducible assumption) | assumption)
              have q101 : x9_1 < (l0.length : Int) := of_decide_eq_true (by first | (with_reducible assumption) | assumption)
              obtain ⟨ad101, e101, hx101_0⟩ := Kd.at_int HR0.out x9_1 p101 q101
              cases e101
              replace p101 := eq_true p101
              replace q101 := eq_true q101
              go_wp2
              go_ret
              exact ⟨by first | rfl | (simp; done) | (simp [*]; done), by repeat (first | exact Drawn0.refl _ | apply Drawn0.step)⟩
            · rw [if_neg c6] at H
              have c6b0 : ((rd l0 x9_1) == a1) = false := beq_eq_false_iff_ne.mpr c6
              have c6b1 : ((rd l0 x9_1) != a1) = true := bne_iff_ne.mpr c6
              have H' := Aside0.mk H
              clear H
              have p101 : 0 ≤ (x9_1 : Int) := of_decide_eq_true (by first | (with_reducible assumption) | assumption)
              have q101 : x9_1 < (l0.length : Int) := of_decide_eq_true (by first | (with_reducible assumption) | assumption)
              obtain ⟨ad101, e101, hx101_0⟩ := Kd.at_int HR0.out x9_1 p101 q101
              cases e101
              replace p101 := eq_true p101
              replace q101 := eq_true q101
              go_wp2
              go_roundg k1
              case measure => have := HK1.out; omega
              case rel => exact ⟨(wrap64 (x9_1 + 1)), (by first | rfl | (simp; done) | (simp [*]; done)), H', ⟨by have := HK1.out; omega⟩, by repeat (first | exact Drawn0.refl _ | apply Drawn0.step)⟩
          · rw [if_neg c5] at H
            exact absurd H (by simp)
        · rw [if_neg c4] at H
          exact absurd H (by simp)
      · rw [if_neg c3] at H
        have c3b0 : decide (x9_1 < (l0.length : Int)) = false := decide_eq_false c3
        clear c3
        obtain rfl := Option.some.inj H
        go_wp2
        go_ret
        exact ⟨by first | rfl | (simp; done) | (simp [*]; done), by repeat (first | exact Drawn0.refl _ | apply Drawn0.step)⟩
end Go.Proofs.Ytohbdjdjjbieeaa.P
namespace Go.Proofs.Ytohbdjdjjbieeaa.P
open Go.RowKit Go.Proofs.YtohbdjdjjbieeaaW.PrintWords Go.Proofs.YtohbdjdjjbieeaaW.PrintLast Go.Proofs.YtohbdjdjjbieeaaW.PrintMore
attribute [local go_sem] max2_int min2_int max_two min_two max_three min_three max_four min_four
set_option linter.unusedVariables false
set_option linter.unusedSimpArgs false
def spec_l1Put.l0 : Nat → List Int → Int → Int → Option (List Int)
  | 0, _, _, _ => none
  | k + 1, x0, x1, x5 => if x5 < (x0.length : Int) then (if 0 ≤ x5 then (if (rd x0 x5) < x1 then (spec_l1Put.l0 k x0 x1 (wrap64 (x5 + 1))) else (if (rd x0 x5) = x1 then (some x0) else ((some (([] : List Int) : List Int)).bind fun y103 => (if x5 ≤ (x0.length : Int) then ((some (x0.take (x5 : Int).toNat : List Int)).bind fun y106 => (if y103.length + y106.length < 17592186044416 then ((some (y103 ++ y106 : List Int)).bind fun y110 => (if y110.length < 17592186044416 then ((some (y110 ++ [x1] : List Int)).bind fun y113 => ((some (x0.drop (x5 : Int).toNat : List Int)).bind fun y116 => (if y113.length + y116.length < 17592186044416 then (some (y113 ++ y116)) else (none)))) else (none))) else (none))) else (none))))) else (none)) else ((some (([] : List Int) : List Int)).bind fun y123 => (if 0 ≤ x5 then (if x5 ≤ (x0.length : Int) then ((some (x0.take (x5 : Int).toNat : List Int)).bind fun y126 => (if y123.length + y126.length < 17592186044416 then ((some (y123 ++ y126 : List Int)).bind fun y130 => (if y130.length < 17592186044416 then ((some (y130 ++ [x1] : List Int)).bind fun y133 => ((some (x0.drop (x5 : Int).toNat : List Int)).bind fun y136 => (if y133.length + y136.length < 17592186044416 then (some (y133 ++ y136)) else (none)))) else (none))) else (none))) else (none)) else (none)))
def spec_l1Put.f (k : Nat) (l0 : List Int) (a1 : Int) : Option (List Int) := spec_l1Put.l0 k l0 a1 0
theorem spec_l1Put.mono_l : ∀ k, (∀ y0 y1 y2, LeO (spec_l1Put.l0 k y0 y1 y2) (spec_l1Put.l0 (k + 1) y0 y1 y2))
  | 0 => fun _ _ _ r h => by simp [spec_l1Put.l0] at h
  | k + 1 => by
    have ih0 := spec_l1Put.mono_l k
    · intro y0 y1 y2
      unfold spec_l1Put.l0
      repeat' first
      | (with_reducible exact ih0 _ _ _)
      | (with_reducible exact LeO.refl _)
      | (with_reducible exact LeO.none _)
      | (with_reducible refine LeO.ite ?_ ?_)
      | (with_reducible refine LeO.bind ?_ (fun _ => ?_))
      | exact ih0 _ _ _
      | exact LeO.none _
      | refine LeO.ite ?_ ?_
      | refine LeO.bind ?_ (fun _ => ?_)
theorem spec_l1Put.mono : ∀ a0 a1 k, LeO (spec_l1Put.f k a0 a1) (spec_l1Put.f (k + 1) a0 a1) := by
  intro a0 a1 k
  have ih0 := spec_l1Put.mono_l k
  unfold spec_l1Put.f
  repeat' first
      | (with_reducible exact ih0 _ _ _)
      | (with_reducible exact LeO.refl _)
      | (with_reducible exact LeO.none _)
      | (with_reducible refine LeO.ite ?_ ?_)
      | (with_reducible refine LeO.bind ?_ (fun _ => ?_))
      | exact ih0 _ _ _
      | exact LeO.none _
      | refine LeO.ite ?_ ?_
      | refine LeO.bind ?_ (fun _ => ?_)
set_option maxHeartbeats 8000000 in
set_option maxRecDepth 100000 in
theorem spec_l1Put.calls (k : Nat) (P0_ : Nat → Prop) (u9000_ : Value) (l0 : List Int) (a1 : Int) (r : List Int) (w0 w : World) (hB : Below w0.heap.size w0 w) (ho0 : Kd.R (Kd.int .i64) 3 w w0.heap.size P0_ u9000_ l0) (h : spec_l1Put.f k l0 a1 = some r) :
    Calls Try.prog 67 #[u9000_, .int .i64 a1] w fun e w' => ∃ v0_ : Value, e = .returned (v0_) ∧ Kd.R (Kd.int .i64) 3 w' w0.heap.size (fun k_ => (P0_ k_ ∨ w.heap.size ≤ k_)) v0_ r ∧ Below w0.heap.size w0 w' ∧ Kept w w' (fun k_ => P0_ k_) := by
  have HO0 := Aside0.mk (show Kd.R (Kd.int .i64) 3 w w0.heap.size (fun k_ => (P0_ k_ ∨ w.heap.size ≤ k_)) u9000_ l0 from Kd.R_mono ho0 (fun k_ hk => (.inl hk)))
  have HK := Aside0.mk (Kept.refl w (fun k_ => P0_ k_))
  have HW0 := Aside0.mk hB.size
  have HB := Aside0.mk hB
  clear hB
  have H : (spec_l1Put.l0 k l0 a1 0) = some r := h
  clear h
  have H' := Aside0.mk H
  clear H
  go_enter Try.func67, Try.ntmps67
  go_wp2
  go_loopg [5] k (fun kq v5 w' => ∃ (x5_1 : Int), v5 = .int .i64 x5_1 ∧ Aside0 (spec_l1Put.l0 kq l0 a1 x5_1 = some r) ∧ Aside0 (kq ≤ k) ∧ Aside0 (Kd.R (Kd.int .i64) 3 w' w0.heap.size (fun k_ => (P0_ k_ ∨ w.heap.size ≤ k_)) u9000_ l0) ∧ Aside0 (Kept w w' (fun k_ => P0_ k_)) ∧ Aside0 (Below w0.heap.size w0 w'))
  case atStart => exact ⟨(0), (by first | rfl | (simp; done) | (simp [*]; done)), H', ⟨Nat.le_refl _⟩, ⟨by (with_reducible repeat (first | apply Kd.R_alloc | apply Kd.R_drewN | apply Kd.R_drew)); exact HO0.out⟩, ⟨by repeat (first | (with_reducible first | exact HK.out | apply Kept.alloc | apply Kept.drewN | apply Kept.drew) | exact HK.out)⟩, ⟨by repeat (first | (with_reducible first | exact HB.out | apply below_alloc | apply pw_below_drewN | apply below_drew1) | exact HB.out)⟩⟩
  case round =>
    clear H'
    try clear p2
    obtain ⟨x5_1, rfl, HA, HK1, HO_0, HK, HB⟩ := hrel
    cases gk with
    | zero => exact absurd HA.out (by simp [spec_l1Put.l0])
    | succ k1 =>
      have H := HA.out
      clear HA
      simp only [spec_l1Put.l0] at H
      by_cases c3 : x5_1 < (l0.length : Int)
      · rw [if_pos c3] at H
        have c3b0 : decide (x5_1 < (l0.length : Int)) = true := decide_eq_true c3
        clear c3
        by_cases c4 : 0 ≤ x5_1
        · rw [if_pos c4] at H
          have c4b0 : decide (0 ≤ x5_1) = true := decide_eq_true c4
          clear c4
          by_cases c5 : (rd l0 x5_1) < a1
          · rw [if_pos c5] at H
            have c5b0 : decide ((rd l0 x5_1) < a1) = true := decide_eq_true c5
            clear c5
            have H' := Aside0.mk H
            clear H
            obtain ⟨Ao6, co6, eo6⟩ := Kd.R_slice HO_0.out
            subst eo6
            have p101 : 0 ≤ (x5_1 : Int) := of_decide_eq_true (by first | (with_reducible assumption) | assumption)
            have q101 : x5_1 < (l0.length : Int) := of_decide_eq_true (by first | (with_reducible assumption) | assumption)
            obtain ⟨ad101, e101, hx101_0⟩ := Kd.at_int (Kd.R_reads' HO_0.out).2.2 x5_1 p101 q101
            cases e101
            replace p101 := eq_true p101
            replace q101 := eq_true q101
            go_wp2
            go_roundg k1
            case measure => have := HK1.out; omega
            case rel => exact ⟨(wrap64 (x5_1 + 1)), (by first | rfl | (simp; done) | (simp [*]; done)), H', ⟨by have := HK1.out; omega⟩, ⟨by (with_reducible repeat (first | apply Kd.R_alloc | apply Kd.R_drewN | apply Kd.R_drew)); exact HO_0.out⟩, ⟨by repeat (first | (with_reducible first | exact HK.out | apply Kept.alloc | apply Kept.drewN | apply Kept.drew) | exact HK.out)⟩, ⟨by repeat (first | (with_reducible first | exact HB.out | apply below_alloc | apply pw_below_drewN | apply below_drew1) | exact HB.out)⟩⟩
          · rw [if_neg c5] at H
            have c5b0 : decide ((rd l0 x5_1) < a1) = false := decide_eq_false c5
            clear c5
            by_cases c7 : (rd l0 x5_1) = a1
            · rw [if_pos c7] at H
              have c7b0 : ((rd l0 x5_1) == a1) = true := beq_iff_eq.mpr c7
              have c7b1 : ((rd l0 x5_1) != a1) = false := bne_eq_false_iff_eq.mpr c7
              clear c7
              obtain rfl := Option.some.inj H
              obtain ⟨Ao8, co8, eo8⟩ := Kd.R_slice HO_0.out
              subst eo8
              have p101 : 0 ≤ (x5_1 : Int) := of_decide_eq_true (by first | (with_reducible assumption) | assumption)
              have q101 : x5_1 < (l0.length : Int) := of_decide_eq_true (by first | (with_reducible assumption) | assumption)
              obtain ⟨ad101, e101, hx101_0⟩ := Kd.at_int (Kd.R_reads' HO_0.out).2.2 x5_1 p101 q101
              cases e101
              replace p101 := eq_true p101
              replace q101 := eq_true q101
              have p102 : 0 ≤ (x5_1 : Int) := of_decide_eq_true (by first | (with_reducible assumption) | assumption)
              have q102 : x5_1 < (l0.length : Int) := of_decide_eq_true (by first | (with_reducible assumption) | assumption)
              obtain ⟨ad102, e102, hx102_0⟩ := Kd.at_int (Kd.R_reads' HO_0.out).2.2 x5_1 p102 q102
              obtain rfl : ad101 = ad102 := (by injection e102)
              replace p102 := eq_true p102
              replace q102 := eq_true q102
              go_wp2
              go_ret
              exact ⟨_, by first | rfl | (simp [errW_none, errW_some] <;> rfl) | (simp [*, errW_none, errW_some] <;> rfl), by (with_reducible repeat (first | apply Kd.R_alloc | apply Kd.R_drewN | apply Kd.R_drew)); exact HO_0.out, by repeat (first | (with_reducible first | exact HB.out | apply below_alloc | apply pw_below_drewN | apply below_drew1) | exact HB.out), by repeat (first | (with_reducible first | exact HK.out | apply Kept.alloc | apply Kept.drewN | apply Kept.drew) | exact HK.out)⟩
            · rw [if_neg c7] at H
              have c7b0 : ((rd l0 x5_1) == a1) = false := beq_eq_false_iff_ne.mpr c7
              have c7b1 : ((rd l0 x5_1) != a1) = true := bne_iff_ne.mpr c7
              obtain ⟨y103, hy103⟩ : ∃ y_ : List Int, y_ = (([] : List Int)) := ⟨_, rfl⟩
              replace H : (if x5_1 ≤ (l0.length : Int) then ((some (l0.take (x5_1 : Int).toNat : List Int)).bind fun y106 => (if y103.length + y106.length < 17592186044416 then ((some (y103 ++ y106 : List Int)).bind fun y110 => (if y110.length < 17592186044416 then ((some (y110 ++ [a1] : List Int)).bind fun y113 => ((some (l0.drop (x5_1 : Int).toNat : List Int)).bind fun y116 => (if y113.length + y116.length < 17592186044416 then (some (y113 ++ y116)) else (none)))) else (none))) else (none))) else (none)) = some r := by first | (rw [hy103]; with_reducible exact H) | (have H2_ := (Option.bind_some _ _).symm.trans H; rw [hy103]; with_reducible exact H2_) | (have H2_ := (Option.bind_some _ _).symm.trans H; with_reducible exact H2_) | with_reducible exact H | (rw [hy103]; exact H) | exact H
              have Ny103 := Aside0.mk hy103
              clear hy103
              have c9b0 := eq_true (of_decide_eq_true (by first | (with_reducible assumption) | assumption) : 0 ≤ x5_1)
              by_cases c10 : x5_1 ≤ (l0.length : Int)
              · rw [if_pos c10] at H
                have c10b0 := eq_true c10
                have c10b1 : decide (x5_1 ≤ (l0.length : Int)) = true := decide_eq_true c10
                clear c10
                obtain ⟨y106, hy106⟩ : ∃ y_ : List Int, y_ = (l0.take (x5_1 : Int).toNat) := ⟨_, rfl⟩
                replace H : (if y103.length + y106.length < 17592186044416 then ((some (y103 ++ y106 : List Int)).bind fun y110 => (if y110.length < 17592186044416 then ((some (y110 ++ [a1] : List Int)).bind fun y113 => ((some (l0.drop (x5_1 : Int).toNat : List Int)).bind fun y116 => (if y113.length + y116.length < 17592186044416 then (some (y113 ++ y116)) else (none)))) else (none))) else (none)) = some r := by first | (rw [hy106]; with_reducible exact H) | (have H2_ := (Option.bind_some _ _).symm.trans H; rw [hy106]; with_reducible exact H2_) | (have H2_ := (Option.bind_some _ _).symm.trans H; with_reducible exact H2_) | with_reducible exact H | (rw [hy106]; exact H) | exact H
                have Ny106 := Aside0.mk hy106
                clear hy106
                by_cases c11 : y103.length + y106.length < 17592186044416
                · rw [if_pos c11] at H
                  have LMc11 := Aside0.mk c11
                  clear c11
                  obtain ⟨y110, hy110⟩ : ∃ y_ : List Int, y_ = (y103 ++ y106) := ⟨_, rfl⟩
                  replace H : (if y110.length < 17592186044416 then ((some (y110 ++ [a1] : List Int)).bind fun y113 => ((some (l0.drop (x5_1 : Int).toNat : List Int)).bind fun y116 => (if y113.length + y116.length < 17592186044416 then (some (y113 ++ y116)) else (none)))) else (none)) = some r := by first | (rw [hy110]; with_reducible exact H) | (have H2_ := (Option.bind_some _ _).symm.trans H; rw [hy110]; with_reducible exact H2_) | (have H2_ := (Option.bind_some _ _).symm.trans H; with_reducible exact H2_) | with_reducible exact H | (rw [hy110]; exact H) | exact H
                  have Ny110 := Aside0.mk hy110
                  clear hy110
                  by_cases c12 : y110.length < 17592186044416
                  · rw [if_pos c12] at H
                    have LMc12 := Aside0.mk c12
                    clear c12
                    obtain ⟨y113, hy113⟩ : ∃ y_ : List Int, y_ = (y110 ++ [a1]) := ⟨_, rfl⟩
                    replace H : ((some (l0.drop (x5_1 : Int).toNat : List Int)).bind fun y116 => (if y113.length + y116.length < 17592186044416 then (some (y113 ++ y116)) else (none))) = some r := by first | (rw [hy113]; with_reducible exact H) | (have H2_ := (Option.bind_some _ _).symm.trans H; rw [hy113]; with_reducible exact H2_) | (have H2_ := (Option.bind_some _ _).symm.trans H; with_reducible exact H2_) | with_reducible exact H | (rw [hy113]; exact H) | exact H
                    have Ny113 := Aside0.mk hy113
                    clear hy113
                    have c13b0 := eq_true (of_decide_eq_true (by first | (with_reducible assumption) | assumption) : 0 ≤ x5_1)
                    have c14b0 := eq_true (of_decide_eq_true (by first | (with_reducible assumption) | assumption) : x5_1 ≤ (l0.length : Int))
                    obtain ⟨y116, hy116⟩ : ∃ y_ : List Int, y_ = (l0.drop (x5_1 : Int).toNat) := ⟨_, rfl⟩
                    replace H : (if y113.length + y116.length < 17592186044416 then (some (y113 ++ y116)) else (none)) = some r := by first | (rw [hy116]; with_reducible exact H) | (have H2_ := (Option.bind_some _ _).symm.trans H; rw [hy116]; with_reducible exact H2_) | (have H2_ := (Option.bind_some _ _).symm.trans H; with_reducible exact H2_) | with_reducible exact H | (rw [hy116]; exact H) | exact H
                    have Ny116 := Aside0.mk hy116
                    clear hy116
                    by_cases c15 : y113.length + y116.length < 17592186044416
                    · rw [if_pos c15] at H
                      have LMc15 := Aside0.mk c15
                      clear c15
                      obtain ⟨y120, hy120⟩ : ∃ y_ : List Int, y_ = (y113 ++ y116) := ⟨_, rfl⟩
                      replace H : (some y120) = some r := by first | (rw [hy120]; with_reducible exact H) | (have H2_ := (Option.bind_some _ _).symm.trans H; rw [hy120]; with_reducible exact H2_) | (have H2_ := (Option.bind_some _ _).symm.trans H; with_reducible exact H2_) | with_reducible exact H | (rw [hy120]; exact H) | exact H
                      have Ny120 := Aside0.mk hy120
                      clear hy120
                      obtain rfl := Option.some.inj H
                      obtain ⟨Ao16, co16, eo16⟩ := Kd.R_slice HO_0.out
                      subst eo16
                      have p101 : 0 ≤ (x5_1 : Int) := of_decide_eq_true (by first | (with_reducible assumption) | assumption)
                      have q101 : x5_1 < (l0.length : Int) := of_decide_eq_true (by first | (with_reducible assumption) | assumption)
                      obtain ⟨ad101, e101, hx101_0⟩ := Kd.at_int (Kd.R_reads' HO_0.out).2.2 x5_1 p101 q101
                      cases e101
                      replace p101 := eq_true p101
                      replace q101 := eq_true q101
                      have p102 : 0 ≤ (x5_1 : Int) := of_decide_eq_true (by first | (with_reducible assumption) | assumption)
                      have q102 : x5_1 < (l0.length : Int) := of_decide_eq_true (by first | (with_reducible assumption) | assumption)
                      obtain ⟨ad102, e102, hx102_0⟩ := Kd.at_int (Kd.R_reads' HO_0.out).2.2 x5_1 p102 q102
                      obtain rfl : ad101 = ad102 := (by injection e102)
                      replace p102 := eq_true p102
                      replace q102 := eq_true q102
                      go_wp2_with (first | ((with_reducible refine gate_dst (N := 34) rfl ?_); refine Kd.R_lit (Kd.int .i64) _ 3 ?hg (N := 34) ?hd (xs := ([] : List Int)) (inner := []) (ok := fun _ => True) (okp := fun _ => True) ?hr ?hp (fun _ hk => hk) trivial (Below.refl _ _) (Nat.le_refl _) (by simp) ?_; (case hd => rfl); (case hg => rfl); (case hr => first | (go_simp; done) | (go_simp; rfl)); (case hp => exact (Reps.none _ _)); intro v104 w17 ho18 hb hg_ hnew_; clear hg_ hnew_; (first | rw [← Ny103.out] at ho18 | (simp only [Int.reduceToNat] at ho18; rw [← Ny103.out] at ho18)); have n0_ := Aside0.mk (Kd.R_elder' (by (with_reducible repeat (first | apply Kd.R_alloc | apply Kd.R_drewN | apply Kd.R_drew)); exact HO_0.out) (Kd.R_base ho18) hb); have n1_ := Aside0.mk (Kd.R_lower (Kd.R_new' (Kd.R_newM (M := fun k_ => (P0_ k_ ∨ w.heap.size ≤ k_)) ho18 (by first | exact HK.out.1 | exact (show Kept w _ (fun k_ => P0_ k_) from by repeat (first | (with_reducible first | exact HK.out | apply Kept.alloc | apply Kept.drewN | apply Kept.drew) | exact HK.out)).1) (fun k_ h_ => .inr h_)) (Kd.R_lt (by (with_reducible repeat (first | apply Kd.R_alloc | apply Kd.R_drewN | apply Kd.R_drew)); exact HO_0.out))) (below_size (by repeat (first | (with_reducible first | exact HB.out | apply below_alloc | apply pw_below_drewN | apply below_drew1) | exact HB.out)))); have n2_ := Aside0.mk (Kept.below (S := (fun k_ => P0_ k_)) (by repeat (first | (with_reducible first | exact HK.out | apply Kept.alloc | apply Kept.drewN | apply Kept.drew) | exact HK.out)) hb); have n3_ := Aside0.mk (below_step (by repeat (first | (with_reducible first | exact HB.out | apply below_alloc | apply pw_below_drewN | apply below_drew1) | exact HB.out)) hb); clear HO_0; clear HK; clear HB; have HO_0 := n0_; have HO105 := n1_; have HK := n2_; have HB := n3_; clear n0_ n1_ n2_ n3_; clear hb ho18; have q19 : (x5_1 : Int) ≤ ((l0.length : Int) : Int) := of_decide_eq_true (by first | (with_reducible assumption) | assumption); obtain ⟨i019, hi019, _, hsz19, _⟩ := info_parts info3; have hroom19 : l0.length ≤ co16 := (Kd.R_reads' HO_0.out).2.1; have hC19 : Kd.C (Kd.int .i64) _ (some ad101) l0.length l0 := (Kd.R_reads' HO_0.out).2.2; have hcut19 := cut_to (P := Try.prog) 34 3 .i64 Try.underlying34 hi019 (some ad101) l0.length co16 x5_1 (of_decide_eq_true (by first | (with_reducible assumption) | assumption)) q19 hroom19; have hr19 := Kd.C_take (m := (x5_1 : Int).toNat) hC19 (by omega); have hy19 : y106.length = (x5_1 : Int).toNat := (by rw [Ny106.out, List.length_take]; omega); rw [← Ny106.out] at hr19; rw [← hy19] at hcut19; have HR109 := Aside0.mk hr19; have HC109 := Aside0.mk (show y106.length ≤ co16 from by omega); clear hr19 hC19 hroom19 hi019 hsz19; have KY19 := Aside0.mk hy19; clear hy19; have KL19 := Aside0.mk (show (x5_1 : Int).toNat ≤ l0.length from by omega); replace q19 := eq_true q19) | ((with_reducible refine gate_builtin (b := .append) (xs := #[.tmp 34, .tmp 37]) rfl ?_); at_builtin; refine Kd.R_append_rows (Kd.int .i64) (w0 := w0) w0.heap.size rfl (.tmp 34) (.tmp 37) 34 3 (.int .i64 0) 8 rfl Try.underlying34 info3 rfl (by decide) (by omega) v104 y103 y106 _ _ _ (fun k_ => (P0_ k_ ∨ w.heap.size ≤ k_) ∧ some k_ ≠ (.slice (some ad101) l0.length co16 : Value).ownBlock) (fun _ => False) rfl rfl ?aO ?aR (fun _ _ h => h) (fun _ h => h.elim) ?aF ?aB ?aS ?aL ?_; (case aR => repeat (first | exact (by repeat (first | (with_reducible exact HR109.out) | (with_reducible refine Kd.C_alloc ?_ _) | (with_reducible refine Kd.C_drewN ?_ _) | (with_reducible refine Kd.C_drew ?_) | exact HR109.out)) | (with_reducible refine Kd.C_alloc ?_ _) | (with_reducible refine Kd.C_drewN ?_ _) | (with_reducible refine Kd.C_drew ?_))); (case aB => exact (by repeat (first | (with_reducible first | exact HB.out | apply below_alloc | apply pw_below_drewN | apply below_drew1) | exact HB.out))); (case aF => exact (fun k_ hk => ⟨(.inr (Nat.le_trans (by first | exact HK.out.1 | exact (show Kept w _ (fun k_ => P0_ k_) from by repeat (first | (with_reducible first | exact HK.out | apply Kept.alloc | apply Kept.drewN | apply Kept.drew) | exact HK.out)).1) hk)), Kd.fresh' (Kd.R_lt (by (with_reducible repeat (first | apply Kd.R_alloc | apply Kd.R_drewN | apply Kd.R_drew)); exact HO_0.out)) k_ hk⟩)); (case aO => exact (by (with_reducible repeat (first | apply Kd.R_alloc | apply Kd.R_drewN | apply Kd.R_drew)); exact Kd.R_mono HO105.out (fun _ hk => ⟨hk.1.1, hk.2⟩))); (case aS => exact (below_size (by repeat (first | (with_reducible first | exact HB.out | apply below_alloc | apply pw_below_drewN | apply below_drew1) | exact HB.out)))); (case aL => have := LMc11.out; omega); intro v111 w20 ho hb hg hat; rw [← Ny110.out] at ho; have n0_ := Aside0.mk (Kd.R_after (ok := (fun k_ => (P0_ k_ ∨ w.heap.size ≤ k_))) (by (with_reducible repeat (first | apply Kd.R_alloc | apply Kd.R_drewN | apply Kd.R_drew)); exact HO_0.out) hg hat); have n1_ := Aside0.mk (hb); have n2_ := Aside0.mk (Kept.of_grown (S := (fun k_ => P0_ k_)) hg (by repeat (first | (with_reducible first | exact HK.out | apply Kept.alloc | apply Kept.drewN | apply Kept.drew) | exact HK.out)) (fun k_ e_ => (HO105.out.1 k_ e_).1.1)); have n3_ := Aside0.mk ((show Kd.C (Kd.int .i64) w20 (some ad101) y106.length y106 from by rw [Ny106.out]; exact Kd.C_take (m := (x5_1 : Int).toNat) ((Kd.R_reads' (Kd.R_after (ok := (fun k_ => (P0_ k_ ∨ w.heap.size ≤ k_))) (by (with_reducible repeat (first | apply Kd.R_alloc | apply Kd.R_drewN | apply Kd.R_drew)); exact HO_0.out) hg hat)).2.2) KL19.out)); have n4_ := Aside0.mk (ho); clear HO_0; clear HB; clear HK; clear HR109; clear HO105; have HO_0 := n0_; have HB := n1_; have HK := n2_; have HR109 := n3_; have HO112 := n4_; clear n0_ n1_ n2_ n3_ n4_; clear ho hb hg hat) | ((with_reducible refine gate_builtin (b := .append) (xs := #[.tmp 39, .tmp 41]) rfl ?_); at_builtin; refine Kd.R_append (Kd.int .i64) (w0 := w0) w0.heap.size rfl (.tmp 39) (.tmp 41) 34 3 (.int .i64 0) 8 rfl Try.underlying34 info3 rfl (by decide) (by omega) v111 y110 a1 [.int .i64 a1] (fun k_ => (P0_ k_ ∨ w.heap.size ≤ k_) ∧ some k_ ≠ (.slice (some ad101) l0.length co16 : Value).ownBlock) (fun _ => False) rfl rfl ?aP (fun _ hk => hk.elim) ?aF ?aO ?aB ?aS ?aL ?_; (case aP => exact rfl); (case aB => exact (by repeat (first | (with_reducible first | exact HB.out | apply below_alloc | apply pw_below_drewN | apply below_drew1) | exact HB.out))); (case aF => exact (fun k_ hk => ⟨(.inr (Nat.le_trans (by first | exact HK.out.1 | exact (show Kept w _ (fun k_ => P0_ k_) from by repeat (first | (with_reducible first | exact HK.out | apply Kept.alloc | apply Kept.drewN | apply Kept.drew) | exact HK.out)).1) hk)), Kd.fresh' (Kd.R_lt (by (with_reducible repeat (first | apply Kd.R_alloc | apply Kd.R_drewN | apply Kd.R_drew)); exact HO_0.out)) k_ hk⟩)); (case aO => exact (by (with_reducible repeat (first | apply Kd.R_alloc | apply Kd.R_drewN | apply Kd.R_drew)); exact HO112.out)); (case aS => exact (below_size (by repeat (first | (with_reducible first | exact HB.out | apply below_alloc | apply pw_below_drewN | apply below_drew1) | exact HB.out)))); (case aL => have := LMc12.out; omega); intro v114 w21 ho hb hg hat; rw [← Ny113.out] at ho; have n0_ := Aside0.mk (Kd.R_after (ok := (fun k_ => (P0_ k_ ∨ w.heap.size ≤ k_))) (by (with_reducible repeat (first | apply Kd.R_alloc | apply Kd.R_drewN | apply Kd.R_drew)); exact HO_0.out) hg hat); have n1_ := Aside0.mk (hb); have n2_ := Aside0.mk (Kept.of_grown (S := (fun k_ => P0_ k_)) hg (by repeat (first | (with_reducible first | exact HK.out | apply Kept.alloc | apply Kept.drewN | apply Kept.drew) | exact HK.out)) (fun k_ e_ => (HO112.out.1 k_ e_).1)); have n3_ := Aside0.mk ((show Kd.C (Kd.int .i64) w21 (some ad101) y106.length y106 from by rw [Ny106.out]; exact Kd.C_take (m := (x5_1 : Int).toNat) ((Kd.R_reads' (Kd.R_after (ok := (fun k_ => (P0_ k_ ∨ w.heap.size ≤ k_))) (by (with_reducible repeat (first | apply Kd.R_alloc | apply Kd.R_drewN | apply Kd.R_drew)); exact HO_0.out) hg hat)).2.2) KL19.out)); have n4_ := Aside0.mk (ho); clear HO_0; clear HB; clear HK; clear HR109; clear HO112; have HO_0 := n0_; have HB := n1_; have HK := n2_; have HR109 := n3_; have HO115 := n4_; clear n0_ n1_ n2_ n3_ n4_; clear ho hb hg hat; have q22 : (x5_1 : Int) ≤ ((l0.length : Int) : Int) := of_decide_eq_true (by first | (with_reducible assumption) | assumption); obtain ⟨i022, hi022, _, hsz22, _⟩ := info_parts info3; have hroom22 : l0.length ≤ co16 := (Kd.R_reads' HO_0.out).2.1; have hC22 : Kd.C (Kd.int .i64) _ (some ad101) l0.length l0 := (Kd.R_reads' HO_0.out).2.2; have q022 : (0 : Int) ≤ (x5_1 : Int) := of_decide_eq_true (by first | (with_reducible assumption) | assumption); have hcut22 := cut_from (P := Try.prog) 34 3 .i64 Try.underlying34 hi022 1 hsz22 (some ad101) l0.length co16 x5_1 q022 q22; have hr22 := Kd.C_drop (m := (x5_1 : Int).toNat) (c := co16) hC22 (by omega) hroom22; obtain ⟨A22, hA22⟩ : ∃ A1, A1 = (if co16 = (x5_1 : Int).toNat then (some ad101) else ((some ad101) : Option Addr).map (·.add ((x5_1 : Int).toNat * 1))) := ⟨_, rfl⟩; obtain ⟨c22, hc22⟩ : ∃ c1, c1 = co16 - (x5_1 : Int).toNat := ⟨_, rfl⟩; have hy22 : y116.length = l0.length - (x5_1 : Int).toNat := (by rw [Ny116.out, List.length_drop] <;> omega); rw [show (l0).drop (x5_1 : Int).toNat = y116 from Ny116.out.symm] at hr22; replace hr22 : Kd.C (Kd.int .i64) _ A22 y116.length y116 := (by rw [hA22]; exact hr22); rw [← hy22, ← hA22, ← hc22] at hcut22; have HR119 := Aside0.mk hr22; have HC119 := Aside0.mk (show y116.length ≤ c22 from by rw [hy22, hc22]; exact Nat.sub_le_sub_right hroom22 _); clear hr22 hC22 hroom22 hi022 hsz22 hc22; have KY22 := Aside0.mk hy22; have KA22 := Aside0.mk hA22; clear hy22 hA22; have KL22 := Aside0.mk (show (x5_1 : Int).toNat ≤ l0.length from by omega); replace q22 := eq_true q22) | ((with_reducible refine gate_builtin (b := .append) (xs := #[.tmp 43, .tmp 46]) rfl ?_); at_builtin; refine Kd.R_append_rows (Kd.int .i64) (w0 := w0) w0.heap.size rfl (.tmp 43) (.tmp 46) 34 3 (.int .i64 0) 8 rfl Try.underlying34 info3 rfl (by decide) (by omega) v114 y113 y116 _ _ _ (fun k_ => (P0_ k_ ∨ w.heap.size ≤ k_) ∧ some k_ ≠ (.slice (some ad101) l0.length co16 : Value).ownBlock) (fun _ => False) rfl rfl ?aO ?aR (fun _ _ h => h) (fun _ h => h.elim) ?aF ?aB ?aS ?aL ?_; (case aR => repeat (first | exact (by repeat (first | (with_reducible exact HR119.out) | (with_reducible refine Kd.C_alloc ?_ _) | (with_reducible refine Kd.C_drewN ?_ _) | (with_reducible refine Kd.C_drew ?_) | exact HR119.out)) | (with_reducible refine Kd.C_alloc ?_ _) | (with_reducible refine Kd.C_drewN ?_ _) | (with_reducible refine Kd.C_drew ?_))); (case aB => exact (by repeat (first | (with_reducible first | exact HB.out | apply below_alloc | apply pw_below_drewN | apply below_drew1) | exact HB.out))); (case aF => exact (fun k_ hk => ⟨(.inr (Nat.le_trans (by first | exact HK.out.1 | exact (show Kept w _ (fun k_ => P0_ k_) from by repeat (first | (with_reducible first | exact HK.out | apply Kept.alloc | apply Kept.drewN | apply Kept.drew) | exact HK.out)).1) hk)), Kd.fresh' (Kd.R_lt (by (with_reducible repeat (first | apply Kd.R_alloc | apply Kd.R_drewN | apply Kd.R_drew)); exact HO_0.out)) k_ hk⟩)); (case aO => exact (by (with_reducible repeat (first | apply Kd.R_alloc | apply Kd.R_drewN | apply Kd.R_drew)); exact HO115.out)); (case aS => exact (below_size (by repeat (first | (with_reducible first | exact HB.out | apply below_alloc | apply pw_below_drewN | apply below_drew1) | exact HB.out)))); (case aL => have := LMc15.out; omega); intro v121 w23 ho hb hg hat; rw [← Ny120.out] at ho; have n0_ := Aside0.mk (Kd.R_after (ok := (fun k_ => (P0_ k_ ∨ w.heap.size ≤ k_))) (by (with_reducible repeat (first | apply Kd.R_alloc | apply Kd.R_drewN | apply Kd.R_drew)); exact HO_0.out) hg hat); have n1_ := Aside0.mk (hb); have n2_ := Aside0.mk (Kept.of_grown (S := (fun k_ => P0_ k_)) hg (by repeat (first | (with_reducible first | exact HK.out | apply Kept.alloc | apply Kept.drewN | apply Kept.drew) | exact HK.out)) (fun k_ e_ => (HO115.out.1 k_ e_).1)); have n3_ := Aside0.mk ((show Kd.C (Kd.int .i64) w23 (some ad101) y106.length y106 from by rw [Ny106.out]; exact Kd.C_take (m := (x5_1 : Int).toNat) ((Kd.R_reads' (Kd.R_after (ok := (fun k_ => (P0_ k_ ∨ w.heap.size ≤ k_))) (by (with_reducible repeat (first | apply Kd.R_alloc | apply Kd.R_drewN | apply Kd.R_drew)); exact HO_0.out) hg hat)).2.2) KL19.out)); have n4_ := Aside0.mk ((show Kd.C (Kd.int .i64) w23 A22 y116.length y116 from by rw [Ny116.out, KA22.out]; exact Kd.C_drop (m := (x5_1 : Int).toNat) (c := co16) ((Kd.R_reads' (Kd.R_after (ok := (fun k_ => (P0_ k_ ∨ w.heap.size ≤ k_))) (by (with_reducible repeat (first | apply Kd.R_alloc | apply Kd.R_drewN | apply Kd.R_drew)); exact HO_0.out) hg hat)).2.2) KL22.out ((Kd.R_reads' (Kd.R_after (ok := (fun k_ => (P0_ k_ ∨ w.heap.size ≤ k_))) (by (with_reducible repeat (first | apply Kd.R_alloc | apply Kd.R_drewN | apply Kd.R_drew)); exact HO_0.out) hg hat)).2.1))); have n5_ := Aside0.mk (ho); clear HO_0; clear HB; clear HK; clear HR109; clear HR119; clear HO115; have HO_0 := n0_; have HB := n1_; have HK := n2_; have HR109 := n3_; have HR119 := n4_; have HO122 := n5_; clear n0_ n1_ n2_ n3_ n4_ n5_; clear ho hb hg hat))
                      go_ret
                      exact ⟨_, by first | rfl | (simp [errW_none, errW_some] <;> rfl) | (simp [*, errW_none, errW_some] <;> rfl), by (with_reducible repeat (first | apply Kd.R_alloc | apply Kd.R_drewN | apply Kd.R_drew)); exact Kd.R_mono HO122.out (fun _ hk => hk.1), by repeat (first | (with_reducible first | exact HB.out | apply below_alloc | apply pw_below_drewN | apply below_drew1) | exact HB.out), by repeat (first | (with_reducible first | exact HK.out | apply Kept.alloc | apply Kept.drewN | apply Kept.drew) | exact HK.out)⟩
                    · rw [if_neg c15] at H
                      exact absurd H (by simp)
                  · rw [if_neg c12] at H
                    exact absurd H (by simp)
                · rw [if_neg c11] at H
                  exact absurd H (by simp)
              · rw [if_neg c10] at H
                exact absurd H (by simp)
        · rw [if_neg c4] at H
          exact absurd H (by simp)
      · rw [if_neg c3] at H
        have c3b0 : decide (x5_1 < (l0.length : Int)) = false := decide_eq_false c3
        clear c3
        obtain ⟨y123, hy123⟩ : ∃ y_ : List Int, y_ = (([] : List Int)) := ⟨_, rfl⟩
        replace H : (if 0 ≤ x5_1 then (if x5_1 ≤ (l0.length : Int) then ((some (l0.take (x5_1 : Int).toNat : List Int)).bind fun y126 => (if y123.length + y126.length < 17592186044416 then ((some (y123 ++ y126 : List Int)).bind fun y130 => (if y130.length < 17592186044416 then ((some (y130 ++ [a1] : List Int)).bind fun y133 => ((some (l0.drop (x5_1 : Int).toNat : List Int)).bind fun y136 => (if y133.length + y136.length < 17592186044416 then (some (y133 ++ y136)) else (none)))) else (none))) else (none))) else (none)) else (none)) = some r := by first | (rw [hy123]; with_reducible exact H) | (have H2_ := (Option.bind_some _ _).symm.trans H; rw [hy123]; with_reducible exact H2_) | (have H2_ := (Option.bind_some _ _).symm.trans H; with_reducible exact H2_) | with_reducible exact H | (rw [hy123]; exact H) | exact H
        have Ny123 := Aside0.mk hy123
        clear hy123
        by_cases c24 : 0 ≤ x5_1
        · rw [if_pos c24] at H
          have c24b0 := eq_true c24
          have c24b1 : decide (0 ≤ x5_1) = true := decide_eq_true c24
          clear c24
          by_cases c25 : x5_1 ≤ (l0.length : Int)
          · rw [if_pos c25] at H
            have c25b0 := eq_true c25
            have c25b1 : decide (x5_1 ≤ (l0.length : Int)) = true := decide_eq_true c25
            clear c25
            obtain ⟨y126, hy126⟩ : ∃ y_ : List Int, y_ = (l0.take (x5_1 : Int).toNat) := ⟨_, rfl⟩
            replace H : (if y123.length + y126.length < 17592186044416 then ((some (y123 ++ y126 : List Int)).bind fun y130 => (if y130.length < 17592186044416 then ((some (y130 ++ [a1] : List Int)).bind fun y133 => ((some (l0.drop (x5_1 : Int).toNat : List Int)).bind fun y136 => (if y133.length + y136.length < 17592186044416 then (some (y133 ++ y136)) else (none)))) else (none))) else (none)) = some r := by first | (rw [hy126]; with_reducible exact H) | (have H2_ := (Option.bind_some _ _).symm.trans H; rw [hy126]; with_reducible exact H2_) | (have H2_ := (Option.bind_some _ _).symm.trans H; with_reducible exact H2_) | with_reducible exact H | (rw [hy126]; exact H) | exact H
            have Ny126 := Aside0.mk hy126
            clear hy126
            by_cases c26 : y123.length + y126.length < 17592186044416
            · rw [if_pos c26] at H
              have LMc26 := Aside0.mk c26
              clear c26
              obtain ⟨y130, hy130⟩ : ∃ y_ : List Int, y_ = (y123 ++ y126) := ⟨_, rfl⟩
              replace H : (if y130.length < 17592186044416 then ((some (y130 ++ [a1] : List Int)).bind fun y133 => ((some (l0.drop (x5_1 : Int).toNat : List Int)).bind fun y136 => (if y133.length + y136.length < 17592186044416 then (some (y133 ++ y136)) else (none)))) else (none)) = some r := by first | (rw [hy130]; with_reducible exact H) | (have H2_ := (Option.bind_some _ _).symm.trans H; rw [hy130]; with_reducible exact H2_) | (have H2_ := (Option.bind_some _ _).symm.trans H; with_reducible exact H2_) | with_reducible exact H | (rw [hy130]; exact H) | exact H
              have Ny130 := Aside0.mk hy130
              clear hy130
              by_cases c27 : y130.length < 17592186044416
              · rw [if_pos c27] at H
                have LMc27 := Aside0.mk c27
                clear c27
                obtain ⟨y133, hy133⟩ : ∃ y_ : List Int, y_ = (y130 ++ [a1]) := ⟨_, rfl⟩
                replace H : ((some (l0.drop (x5_1 : Int).toNat : List Int)).bind fun y136 => (if y133.length + y136.length < 17592186044416 then (some (y133 ++ y136)) else (none))) = some r := by first | (rw [hy133]; with_reducible exact H) | (have H2_ := (Option.bind_some _ _).symm.trans H; rw [hy133]; with_reducible exact H2_) | (have H2_ := (Option.bind_some _ _).symm.trans H; with_reducible exact H2_) | with_reducible exact H | (rw [hy133]; exact H) | exact H
                have Ny133 := Aside0.mk hy133
                clear hy133
                have c28b0 := eq_true (of_decide_eq_true (by first | (with_reducible assumption) | assumption) : 0 ≤ x5_1)
                have c29b0 := eq_true (of_decide_eq_true (by first | (with_reducible assumption) | assumption) : x5_1 ≤ (l0.length : Int))
                obtain ⟨y136, hy136⟩ : ∃ y_ : List Int, y_ = (l0.drop (x5_1 : Int).toNat) := ⟨_, rfl⟩
                replace H : (if y133.length + y136.length < 17592186044416 then (some (y133 ++ y136)) else (none)) = some r := by first | (rw [hy136]; with_reducible exact H) | (have H2_ := (Option.bind_some _ _).symm.trans H; rw [hy136]; with_reducible exact H2_) | (have H2_ := (Option.bind_some _ _).symm.trans H; with_reducible exact H2_) | with_reducible exact H | (rw [hy136]; exact H) | exact H
                have Ny136 := Aside0.mk hy136
                clear hy136
                by_cases c30 : y133.length + y136.length < 17592186044416
                · rw [if_pos c30] at H
                  have LMc30 := Aside0.mk c30
                  clear c30
                  obtain ⟨y140, hy140⟩ : ∃ y_ : List Int, y_ = (y133 ++ y136) := ⟨_, rfl⟩
                  replace H : (some y140) = some r := by first | (rw [hy140]; with_reducible exact H) | (have H2_ := (Option.bind_some _ _).symm.trans H; rw [hy140]; with_reducible exact H2_) | (have H2_ := (Option.bind_some _ _).symm.trans H; with_reducible exact H2_) | with_reducible exact H | (rw [hy140]; exact H) | exact H
                  have Ny140 := Aside0.mk hy140
                  clear hy140
                  obtain rfl := Option.some.inj H
                  obtain ⟨Ao31, co31, eo31⟩ := Kd.R_slice HO_0.out
                  subst eo31
                  go_wp2_with (first | ((with_reducible refine gate_dst (N := 34) rfl ?_); refine Kd.R_lit (Kd.int .i64) _ 3 ?hg (N := 34) ?hd (xs := ([] : List Int)) (inner := []) (ok := fun _ => True) (okp := fun _ => True) ?hr ?hp (fun _ hk => hk) trivial (Below.refl _ _) (Nat.le_refl _) (by simp) ?_; (case hd => rfl); (case hg => rfl); (case hr => first | (go_simp; done) | (go_simp; rfl)); (case hp => exact (Reps.none _ _)); intro v124 w32 ho33 hb hg_ hnew_; clear hg_ hnew_; (first | rw [← Ny123.out] at ho33 | (simp only [Int.reduceToNat] at ho33; rw [← Ny123.out] at ho33)); have n0_ := Aside0.mk (Kd.R_elder' (by (with_reducible repeat (first | apply Kd.R_alloc | apply Kd.R_drewN | apply Kd.R_drew)); exact HO_0.out) (Kd.R_base ho33) hb); have n1_ := Aside0.mk (Kd.R_lower (Kd.R_new' (Kd.R_newM (M := fun k_ => (P0_ k_ ∨ w.heap.size ≤ k_)) ho33 (by first | exact HK.out.1 | exact (show Kept w _ (fun k_ => P0_ k_) from by repeat (first | (with_reducible first | exact HK.out | apply Kept.alloc | apply Kept.drewN | apply Kept.drew) | exact HK.out)).1) (fun k_ h_ => .inr h_)) (Kd.R_lt (by (with_reducible repeat (first | apply Kd.R_alloc | apply Kd.R_drewN | apply Kd.R_drew)); exact HO_0.out))) (below_size (by repeat (first | (with_reducible first | exact HB.out | apply below_alloc | apply pw_below_drewN | apply below_drew1) | exact HB.out)))); have n2_ := Aside0.mk (Kept.below (S := (fun k_ => P0_ k_)) (by repeat (first | (with_reducible first | exact HK.out | apply Kept.alloc | apply Kept.drewN | apply Kept.drew) | exact HK.out)) hb); have n3_ := Aside0.mk (below_step (by repeat (first | (with_reducible first | exact HB.out | apply below_alloc | apply pw_below_drewN | apply below_drew1) | exact HB.out)) hb); clear HO_0; clear HK; clear HB; have HO_0 := n0_; have HO125 := n1_; have HK := n2_; have HB := n3_; clear n0_ n1_ n2_ n3_; clear hb ho33; have q34 : (x5_1 : Int) ≤ ((l0.length : Int) : Int) := of_decide_eq_true (by first | (with_reducible assumption) | assumption); obtain ⟨i034, hi034, _, hsz34, _⟩ := info_parts info3; have hroom34 : l0.length ≤ co31 := (Kd.R_reads' HO_0.out).2.1; have hC34 : Kd.C (Kd.int .i64) _ Ao31 l0.length l0 := (Kd.R_reads' HO_0.out).2.2; have hcut34 := cut_to (P := Try.prog) 34 3 .i64 Try.underlying34 hi034 Ao31 l0.length co31 x5_1 (of_decide_eq_true (by first | (with_reducible assumption) | assumption)) q34 hroom34; have hr34 := Kd.C_take (m := (x5_1 : Int).toNat) hC34 (by omega); have hy34 : y126.length = (x5_1 : Int).toNat := (by rw [Ny126.out, List.length_take]; omega); rw [← Ny126.out] at hr34; rw [← hy34] at hcut34; have HR129 := Aside0.mk hr34; have HC129 := Aside0.mk (show y126.length ≤ co31 from by omega); clear hr34 hC34 hroom34 hi034 hsz34; have KY34 := Aside0.mk hy34; clear hy34; have KL34 := Aside0.mk (show (x5_1 : Int).toNat ≤ l0.length from by omega); replace q34 := eq_true q34) | ((with_reducible refine gate_builtin (b := .append) (xs := #[.tmp 34, .tmp 37]) rfl ?_); at_builtin; refine Kd.R_append_rows (Kd.int .i64) (w0 := w0) w0.heap.size rfl (.tmp 34) (.tmp 37) 34 3 (.int .i64 0) 8 rfl Try.underlying34 info3 rfl (by decide) (by omega) v124 y123 y126 _ _ _ (fun k_ => (P0_ k_ ∨ w.heap.size ≤ k_) ∧ some k_ ≠ (.slice Ao31 l0.length co31 : Value).ownBlock) (fun _ => False) rfl rfl ?aO ?aR (fun _ _ h => h) (fun _ h => h.elim) ?aF ?aB ?aS ?aL ?_; (case aR => repeat (first | exact (by repeat (first | (with_reducible exact HR129.out) | (with_reducible refine Kd.C_alloc ?_ _) | (with_reducible refine Kd.C_drewN ?_ _) | (with_reducible refine Kd.C_drew ?_) | exact HR129.out)) | (with_reducible refine Kd.C_alloc ?_ _) | (with_reducible refine Kd.C_drewN ?_ _) | (with_reducible refine Kd.C_drew ?_))); (case aB => exact (by repeat (first | (with_reducible first | exact HB.out | apply below_alloc | apply pw_below_drewN | apply below_drew1) | exact HB.out))); (case aF => exact (fun k_ hk => ⟨(.inr (Nat.le_trans (by first | exact HK.out.1 | exact (show Kept w _ (fun k_ => P0_ k_) from by repeat (first | (with_reducible first | exact HK.out | apply Kept.alloc | apply Kept.drewN | apply Kept.drew) | exact HK.out)).1) hk)), Kd.fresh' (Kd.R_lt (by (with_reducible repeat (first | apply Kd.R_alloc | apply Kd.R_drewN | apply Kd.R_drew)); exact HO_0.out)) k_ hk⟩)); (case aO => exact (by (with_reducible repeat (first | apply Kd.R_alloc | apply Kd.R_drewN | apply Kd.R_drew)); exact Kd.R_mono HO125.out (fun _ hk => ⟨hk.1.1, hk.2⟩))); (case aS => exact (below_size (by repeat (first | (with_reducible first | exact HB.out | apply below_alloc | apply pw_below_drewN | apply below_drew1) | exact HB.out)))); (case aL => have := LMc26.out; omega); intro v131 w35 ho hb hg hat; rw [← Ny130.out] at ho; have n0_ := Aside0.mk (Kd.R_after (ok := (fun k_ => (P0_ k_ ∨ w.heap.size ≤ k_))) (by (with_reducible repeat (first | apply Kd.R_alloc | apply Kd.R_drewN | apply Kd.R_drew)); exact HO_0.out) hg hat); have n1_ := Aside0.mk (hb); have n2_ := Aside0.mk (Kept.of_grown (S := (fun k_ => P0_ k_)) hg (by repeat (first | (with_reducible first | exact HK.out | apply Kept.alloc | apply Kept.drewN | apply Kept.drew) | exact HK.out)) (fun k_ e_ => (HO125.out.1 k_ e_).1.1)); have n3_ := Aside0.mk ((show Kd.C (Kd.int .i64) w35 Ao31 y126.length y126 from by rw [Ny126.out]; exact Kd.C_take (m := (x5_1 : Int).toNat) ((Kd.R_reads' (Kd.R_after (ok := (fun k_ => (P0_ k_ ∨ w.heap.size ≤ k_))) (by (with_reducible repeat (first | apply Kd.R_alloc | apply Kd.R_drewN | apply Kd.R_drew)); exact HO_0.out) hg hat)).2.2) KL34.out)); have n4_ := Aside0.mk (ho); clear HO_0; clear HB; clear HK; clear HR129; clear HO125; have HO_0 := n0_; have HB := n1_; have HK := n2_; have HR129 := n3_; have HO132 := n4_; clear n0_ n1_ n2_ n3_ n4_; clear ho hb hg hat) | ((with_reducible refine gate_builtin (b := .append) (xs := #[.tmp 39, .tmp 41]) rfl ?_); at_builtin; refine Kd.R_append (Kd.int .i64) (w0 := w0) w0.heap.size rfl (.tmp 39) (.tmp 41) 34 3 (.int .i64 0) 8 rfl Try.underlying34 info3 rfl (by decide) (by omega) v131 y130 a1 [.int .i64 a1] (fun k_ => (P0_ k_ ∨ w.heap.size ≤ k_) ∧ some k_ ≠ (.slice Ao31 l0.length co31 : Value).ownBlock) (fun _ => False) rfl rfl ?aP (fun _ hk => hk.elim) ?aF ?aO ?aB ?aS ?aL ?_; (case aP => exact rfl); (case aB => exact (by repeat (first | (with_reducible first | exact HB.out | apply below_alloc | apply pw_below_drewN | apply below_drew1) | exact HB.out))); (case aF => exact (fun k_ hk => ⟨(.inr (Nat.le_trans (by first | exact HK.out.1 | exact (show Kept w _ (fun k_ => P0_ k_) from by repeat (first | (with_reducible first | exact HK.out | apply Kept.alloc | apply Kept.drewN | apply Kept.drew) | exact HK.out)).1) hk)), Kd.fresh' (Kd.R_lt (by (with_reducible repeat (first | apply Kd.R_alloc | apply Kd.R_drewN | apply Kd.R_drew)); exact HO_0.out)) k_ hk⟩)); (case aO => exact (by (with_reducible repeat (first | apply Kd.R_alloc | apply Kd.R_drewN | apply Kd.R_drew)); exact HO132.out)); (case aS => exact (below_size (by repeat (first | (with_reducible first | exact HB.out | apply below_alloc | apply pw_below_drewN | apply below_drew1) | exact HB.out)))); (case aL => have := LMc27.out; omega); intro v134 w36 ho hb hg hat; rw [← Ny133.out] at ho; have n0_ := Aside0.mk (Kd.R_after (ok := (fun k_ => (P0_ k_ ∨ w.heap.size ≤ k_))) (by (with_reducible repeat (first | apply Kd.R_alloc | apply Kd.R_drewN | apply Kd.R_drew)); exact HO_0.out) hg hat); have n1_ := Aside0.mk (hb); have n2_ := Aside0.mk (Kept.of_grown (S := (fun k_ => P0_ k_)) hg (by repeat (first | (with_reducible first | exact HK.out | apply Kept.alloc | apply Kept.drewN | apply Kept.drew) | exact HK.out)) (fun k_ e_ => (HO132.out.1 k_ e_).1)); have n3_ := Aside0.mk ((show Kd.C (Kd.int .i64) w36 Ao31 y126.length y126 from by rw [Ny126.out]; exact Kd.C_take (m := (x5_1 : Int).toNat) ((Kd.R_reads' (Kd.R_after (ok := (fun k_ => (P0_ k_ ∨ w.heap.size ≤ k_))) (by (with_reducible repeat (first | apply Kd.R_alloc | apply Kd.R_drewN | apply Kd.R_drew)); exact HO_0.out) hg hat)).2.2) KL34.out)); have n4_ := Aside0.mk (ho); clear HO_0; clear HB; clear HK; clear HR129; clear HO132; have HO_0 := n0_; have HB := n1_; have HK := n2_; have HR129 := n3_; have HO135 := n4_; clear n0_ n1_ n2_ n3_ n4_; clear ho hb hg hat; have q37 : (x5_1 : Int) ≤ ((l0.length : Int) : Int) := of_decide_eq_true (by first | (with_reducible assumption) | assumption); obtain ⟨i037, hi037, _, hsz37, _⟩ := info_parts info3; have hroom37 : l0.length ≤ co31 := (Kd.R_reads' HO_0.out).2.1; have hC37 : Kd.C (Kd.int .i64) _ Ao31 l0.length l0 := (Kd.R_reads' HO_0.out).2.2; have q037 : (0 : Int) ≤ (x5_1 : Int) := of_decide_eq_true (by first | (with_reducible assumption) | assumption); have hcut37 := cut_from (P := Try.prog) 34 3 .i64 Try.underlying34 hi037 1 hsz37 Ao31 l0.length co31 x5_1 q037 q37; have hr37 := Kd.C_drop (m := (x5_1 : Int).toNat) (c := co31) hC37 (by omega) hroom37; obtain ⟨A37, hA37⟩ : ∃ A1, A1 = (if co31 = (x5_1 : Int).toNat then Ao31 else (Ao31 : Option Addr).map (·.add ((x5_1 : Int).toNat * 1))) := ⟨_, rfl⟩; obtain ⟨c37, hc37⟩ : ∃ c1, c1 = co31 - (x5_1 : Int).toNat := ⟨_, rfl⟩; have hy37 : y136.length = l0.length - (x5_1 : Int).toNat := (by rw [Ny136.out, List.length_drop] <;> omega); rw [show (l0).drop (x5_1 : Int).toNat = y136 from Ny136.out.symm] at hr37; replace hr37 : Kd.C (Kd.int .i64) _ A37 y136.length y136 := (by rw [hA37]; exact hr37); rw [← hy37, ← hA37, ← hc37] at hcut37; have HR139 := Aside0.mk hr37; have HC139 := Aside0.mk (show y136.length ≤ c37 from by rw [hy37, hc37]; exact Nat.sub_le_sub_right hroom37 _); clear hr37 hC37 hroom37 hi037 hsz37 hc37; have KY37 := Aside0.mk hy37; have KA37 := Aside0.mk hA37; clear hy37 hA37; have KL37 := Aside0.mk (show (x5_1 : Int).toNat ≤ l0.length from by omega); replace q37 := eq_true q37) | ((with_reducible refine gate_builtin (b := .append) (xs := #[.tmp 43, .tmp 46]) rfl ?_); at_builtin; refine Kd.R_append_rows (Kd.int .i64) (w0 := w0) w0.heap.size rfl (.tmp 43) (.tmp 46) 34 3 (.int .i64 0) 8 rfl Try.underlying34 info3 rfl (by decide) (by omega) v134 y133 y136 _ _ _ (fun k_ => (P0_ k_ ∨ w.heap.size ≤ k_) ∧ some k_ ≠ (.slice Ao31 l0.length co31 : Value).ownBlock) (fun _ => False) rfl rfl ?aO ?aR (fun _ _ h => h) (fun _ h => h.elim) ?aF ?aB ?aS ?aL ?_; (case aR => repeat (first | exact (by repeat (first | (with_reducible exact HR139.out) | (with_reducible refine Kd.C_alloc ?_ _) | (with_reducible refine Kd.C_drewN ?_ _) | (with_reducible refine Kd.C_drew ?_) | exact HR139.out)) | (with_reducible refine Kd.C_alloc ?_ _) | (with_reducible refine Kd.C_drewN ?_ _) | (with_reducible refine Kd.C_drew ?_))); (case aB => exact (by repeat (first | (with_reducible first | exact HB.out | apply below_alloc | apply pw_below_drewN | apply below_drew1) | exact HB.out))); (case aF => exact (fun k_ hk => ⟨(.inr (Nat.le_trans (by first | exact HK.out.1 | exact (show Kept w _ (fun k_ => P0_ k_) from by repeat (first | (with_reducible first | exact HK.out | apply Kept.alloc | apply Kept.drewN | apply Kept.drew) | exact HK.out)).1) hk)), Kd.fresh' (Kd.R_lt (by (with_reducible repeat (first | apply Kd.R_alloc | apply Kd.R_drewN | apply Kd.R_drew)); exact HO_0.out)) k_ hk⟩)); (case aO => exact (by (with_reducible repeat (first | apply Kd.R_alloc | apply Kd.R_drewN | apply Kd.R_drew)); exact HO135.out)); (case aS => exact (below_size (by repeat (first | (with_reducible first | exact HB.out | apply below_alloc | apply pw_below_drewN | apply below_drew1) | exact HB.out)))); (case aL => have := LMc30.out; omega); intro v141 w38 ho hb hg hat; rw [← Ny140.out] at ho; have n0_ := Aside0.mk (Kd.R_after (ok := (fun k_ => (P0_ k_ ∨ w.heap.size ≤ k_))) (by (with_reducible repeat (first | apply Kd.R_alloc | apply Kd.R_drewN | apply Kd.R_drew)); exact HO_0.out) hg hat); have n1_ := Aside0.mk (hb); have n2_ := Aside0.mk (Kept.of_grown (S := (fun k_ => P0_ k_)) hg (by repeat (first | (with_reducible first | exact HK.out | apply Kept.alloc | apply Kept.drewN | apply Kept.drew) | exact HK.out)) (fun k_ e_ => (HO135.out.1 k_ e_).1)); have n3_ := Aside0.mk ((show Kd.C (Kd.int .i64) w38 Ao31 y126.length y126 from by rw [Ny126.out]; exact Kd.C_take (m := (x5_1 : Int).toNat) ((Kd.R_reads' (Kd.R_after (ok := (fun k_ => (P0_ k_ ∨ w.heap.size ≤ k_))) (by (with_reducible repeat (first | apply Kd.R_alloc | apply Kd.R_drewN | apply Kd.R_drew)); exact HO_0.out) hg hat)).2.2) KL34.out)); have n4_ := Aside0.mk ((show Kd.C (Kd.int .i64) w38 A37 y136.length y136 from by rw [Ny136.out, KA37.out]; exact Kd.C_drop (m := (x5_1 : Int).toNat) (c := co31) ((Kd.R_reads' (Kd.R_after (ok := (fun k_ => (P0_ k_ ∨ w.heap.size ≤ k_))) (by (with_reducible repeat (first | apply Kd.R_alloc | apply Kd.R_drewN | apply Kd.R_drew)); exact HO_0.out) hg hat)).2.2) KL37.out ((Kd.R_reads' (Kd.R_after (ok := (fun k_ => (P0_ k_ ∨ w.heap.size ≤ k_))) (by (with_reducible repeat (first | apply Kd.R_alloc | apply Kd.R_drewN | apply Kd.R_drew)); exact HO_0.out) hg hat)).2.1))); have n5_ := Aside0.mk (ho); clear HO_0; clear HB; clear HK; clear HR129; clear HR139; clear HO135; have HO_0 := n0_; have HB := n1_; have HK := n2_; have HR129 := n3_; have HR139 := n4_; have HO142 := n5_; clear n0_ n1_ n2_ n3_ n4_ n5_; clear ho hb hg hat))
                  go_ret
                  exact ⟨_, by first | rfl | (simp [errW_none, errW_some] <;> rfl) | (simp [*, errW_none, errW_some] <;> rfl), by (with_reducible repeat (first | apply Kd.R_alloc | apply Kd.R_drewN | apply Kd.R_drew)); exact Kd.R_mono HO142.out (fun _ hk => hk.1), by repeat (first | (with_reducible first | exact HB.out | apply below_alloc | apply pw_below_drewN | apply below_drew1) | exact HB.out), by repeat (first | (with_reducible first | exact HK.out | apply Kept.alloc | apply Kept.drewN | apply Kept.drew) | exact HK.out)⟩
                · rw [if_neg c30] at H
                  exact absurd H (by simp)
              · rw [if_neg c27] at H
                exact absurd H (by simp)
            · rw [if_neg c26] at H
              exact absurd H (by simp)
          · rw [if_neg c25] at H
            exact absurd H (by simp)
        · rw [if_neg c24] at H
          exact absurd H (by simp)
end Go.Proofs.Ytohbdjdjjbieeaa.P
namespace Go.Proofs.Ytohbdjdjjbieeaa.P
open Go.RowKit Go.Proofs.YtohbdjdjjbieeaaW.PrintWords Go.Proofs.YtohbdjdjjbieeaaW.PrintLast Go.Proofs.YtohbdjdjjbieeaaW.PrintMore
attribute [local go_sem] max2_int min2_int max_two min_two max_three min_three max_four min_four
set_option linter.unusedVariables false
set_option linter.unusedSimpArgs false
mutual
def spec_l3Close.l0 : Nat → Bool → List Int → Bool → Int → Int → List (S47) → Option (List Int)
  | 0, _, _, _, _, _, _ => none
  | k + 1, x1, x5, x6, x102000, x102001, x102002 => if x6 = true then (spec_l3Close.l1 k x1 x5 false x102002 (x102002.length : Int) 0 x102000 x102001 x102002) else (some x5)
def spec_l3Close.l1 : Nat → Bool → List Int → Bool → List (S47) → Int → Int → Int → Int → List (S47) → Option (List Int)
  | 0, _, _, _, _, _, _, _, _, _ => none
  | k + 1, x1, x5, x6, x14, x15, x16, x102000, x102001, x102002 => if x16 < x15 then (if 0 ≤ x16 then (if x16 < (x14.length : Int) then ((spec_l1Has.f k x5 ((rd_T47 x14 x16).f0)).bind fun t104 => (spec_l3Close.l2 k x1 x5 x6 (!t104) x14 x15 x16 ((rd_T47 x14 x16).f1) (((rd_T47 x14 x16).f1).length : Int) 0 x102000 x102001 x102002 ((rd_T47 x14 x16).f0) ((rd_T47 x14 x16).f1))) else (none)) else (none)) else (spec_l3Close.l0 k x1 x5 x6 x102000 x102001 x102002)
def spec_l3Close.l2 : Nat → Bool → List Int → Bool → Bool → List (S47) → Int → Int → List Int → Int → Int → Int → Int → List (S47) → Int → List Int → Option (List Int)
  | 0, _, _, _, _, _, _, _, _, _, _, _, _, _, _, _ => none
  | k + 1, x1, x5, x6, x9, x14, x15, x16, x26, x27, x28, x102000, x102001, x102002, x104000, x104001 => if x28 < x27 then (if 0 ≤ x28 then (if x28 < (x26.length : Int) then (if x9 = true then (if (rd x26 x28) < 0 then (if x1 = true then (spec_l3Close.l2 k x1 x5 x6 true x14 x15 x16 x26 x27 (wrap64 (x28 + 1)) x102000 x102001 x102002 x104000 x104001) else (if (rd x26 x28) ≥ 0 then ((spec_l1Has.f k x5 (rd x26 x28)).bind fun t106 => (spec_l3Close.l2 k x1 x5 x6 t106 x14 x15 x16 x26 x27 (wrap64 (x28 + 1)) x102000 x102001 x102002 x104000 x104001)) else (spec_l3Close.l2 k x1 x5 x6 false x14 x15 x16 x26 x27 (wrap64 (x28 + 1)) x102000 x102001 x102002 x104000 x104001))) else (if (rd x26 x28) ≥ 0 then ((spec_l1Has.f k x5 (rd x26 x28)).bind fun t107 => (spec_l3Close.l2 k x1 x5 x6 t107 x14 x15 x16 x26 x27 (wrap64 (x28 + 1)) x102000 x102001 x102002 x104000 x104001)) else (spec_l3Close.l2 k x1 x5 x6 false x14 x15 x16 x26 x27 (wrap64 (x28 + 1)) x102000 x102001 x102002 x104000 x104001))) else (spec_l3Close.l2 k x1 x5 x6 false x14 x15 x16 x26 x27 (wrap64 (x28 + 1)) x102000 x102001 x102002 x104000 x104001)) else (none)) else (none)) else (if x9 = true then ((spec_l1Put.f k x5 x104000).bind fun t108 => (spec_l3Close.l1 k x1 t108 true x14 x15 (wrap64 (x16 + 1)) x102000 x102001 x102002)) else (spec_l3Close.l1 k x1 x5 x6 x14 x15 (wrap64 (x16 + 1)) x102000 x102001 x102002))
end
def spec_l3Close.f (k : Nat) (a0_0 : Int) (a0_1 : Int) (l0_2 : List (S47)) (a1 : Bool) : Option (List Int) := spec_l3Close.l0 k a1 ([] : List Int) true a0_0 a0_1 l0_2
set_option maxHeartbeats 8000000 in
set_option maxRecDepth 100000 in
theorem spec_l3Close.calls (k : Nat) (a0_0 : Int) (a0_1 : Int) (A0_2 : Option Addr) (c0_2 : Nat) (l0_2 : List (S47)) (a1 : Bool) (r : List Int) (w : World) (hr0_2 : Kd.C k47 w A0_2 l0_2.length l0_2) (hc0_2 : l0_2.length ≤ c0_2) (h : spec_l3Close.f k a0_0 a0_1 l0_2 a1 = some r) :
    Calls Try.prog 45 #[.agg #[.int .i64 a0_0, .int .i64 a0_1, .slice A0_2 l0_2.length c0_2], .bool a1] w fun e w' => ∃ v0_ : Value, e = .returned (v0_) ∧ Kd.R (Kd.int .i64) 3 w' w.heap.size (fun _ => True) v0_ r ∧ Below w.heap.size w w' := by
  have hu30 := Try.underlying30
  have hu47 := Try.underlying47
  have HR0_2 := Aside0.mk hr0_2
  have HC0_2 := Aside0.mk hc0_2
  clear hr0_2 hc0_2
  have HB := Aside0.mk (Below.refl w.heap.size w)
  have H : (spec_l3Close.l0 k a1 ([] : List Int) true a0_0 a0_1 l0_2) = some r := h
  clear h
  have H' := Aside0.mk H
  clear H
  go_enter Try.func45, Try.ntmps45
  go_wp2_with (first | ((with_reducible refine gate_dst (N := 2) rfl ?_); refine box_event ?hg (N := 2) ?hd (cs := #[.int .i64 a0_0, .int .i64 a0_1, .slice A0_2 l0_2.length c0_2]) (t := 30) ?hr ?_; (case hd => rfl); (case hg => rfl); (case hr => first | (go_simp; done) | (go_simp; rfl)); intro gb101 hg w3 hbox hb; have n0_ := Aside0.mk (below_step (by repeat (first | (with_reducible first | exact HB.out | apply below_alloc | apply pw_below_drewN | apply below_drew1) | exact HB.out)) hb); have n1_ := Aside0.mk (hbox); have n2_ := Aside0.mk ((by rw [hg]; exact (below_size (by repeat (first | (with_reducible first | exact HB.out | apply below_alloc | apply pw_below_drewN | apply below_drew1) | exact HB.out))) : w.heap.size ≤ gb101)); have n3_ := Aside0.mk ((by rw [hg]; exact (below_size (by repeat (first | (with_reducible first | exact HB.out | apply below_alloc | apply pw_below_drewN | apply below_drew1) | exact HB.out))) : w.heap.size ≤ gb101)); clear HB; have HB := n0_; have BK101 := n1_; have GW101 := n2_; have GE101 := n3_; clear n0_ n1_ n2_ n3_; clear hb hbox hg))
  go_loopg [5, 6] k (fun kq v5 v6 w' => ∃ (x5_1 : List Int) (x6_1 : Bool), v6 = .bool x6_1 ∧ Aside0 (spec_l3Close.l0 kq a1 x5_1 x6_1 a0_0 a0_1 l0_2 = some r) ∧ Aside0 (kq ≤ k) ∧ Aside0 (Kd.R (Kd.int .i64) 3 w' w.heap.size (fun _ => True) v5 x5_1) ∧ Aside0 (w'.heap[gb101]? = some (.cells #[.int .i64 a0_0, .int .i64 a0_1, (.slice A0_2 l0_2.length c0_2)] 30 (0, 0))) ∧ Aside0 (Below w.heap.size w w'))
  case atStart => exact ⟨(([] : List Int)), (true), (by first | rfl | (simp; done) | (simp [*]; done)), H', ⟨Nat.le_refl _⟩, ⟨by first | exact Kd.R_nil _ _ _ _ _ | exact Kd.N_nil _ _ _ _ _ | exact Kd.V_nil _ _ _ _ _ | exact Kd.Q_nil _ _ _ _ _ | exact Kd.S_nil _ _ _ _ _⟩, ⟨by (with_reducible repeat (first | refine blk_drewN ?_ _ | refine blk_drew ?_ | refine blk_alloc ?_ _)); exact BK101.out⟩, ⟨by repeat (first | (with_reducible first | exact HB.out | apply below_alloc | apply pw_below_drewN | apply below_drew1 | refine below_set ?_ GE101.out) | exact HB.out)⟩⟩
  case round =>
    clear H'
    try clear p2
    obtain ⟨x5_1, x6_1, rfl, HA, HK1, HO_5, BK101, HB⟩ := hrel
    cases gk with
    | zero => exact absurd HA.out (by simp [spec_l3Close.l0])
    | succ k1 =>
      have H := HA.out
      clear HA
      simp only [spec_l3Close.l0] at H
      by_cases c4 : x6_1 = true
      · subst c4
        have H1 : (spec_l3Close.l1 k1 a1 x5_1 false l0_2 (l0_2.length : Int) 0 a0_0 a0_1 l0_2) = some r := by rw [if_pos rfl] at H; exact H
        clear H
        have H := H1
        clear H1
        have H' := Aside0.mk H
        clear H
        have hcz5_0 : wr.cell? ⟨gb101, 0, none⟩ = some (.int .i64 a0_0) := (blk_cell BK101.out 0).trans rfl
        have hcz5_1 : wr.cell? ⟨gb101, 1, none⟩ = some (.int .i64 a0_1) := (blk_cell BK101.out 1).trans rfl
        have hcz5_2 : wr.cell? ⟨gb101, 2, none⟩ = some (.slice A0_2 l0_2.length c0_2) := (blk_cell BK101.out 2).trans rfl
        have hfz5_0 := blk_frozen BK101.out 0
        have hfz5_1 := blk_frozen BK101.out 1
        have hfz5_2 := blk_frozen BK101.out 2
        go_wp2
        go_loopg [5, 6, 16] k1 (fun kq v5 v6 v16 w' => ∃ (x5_2 : List Int) (x6_2 : Bool) (x16_2 : Int), v6 = .bool x6_2 ∧ v16 = .int .i64 x16_2 ∧ Aside0 (spec_l3Close.l1 kq a1 x5_2 x6_2 l0_2 (l0_2.length : Int) x16_2 a0_0 a0_1 l0_2 = some r) ∧ Aside0 (kq ≤ k1) ∧ Aside0 (Kd.R (Kd.int .i64) 3 w' w.heap.size (fun _ => True) v5 x5_2) ∧ Aside0 (w'.heap[gb101]? = some (.cells #[.int .i64 a0_0, .int .i64 a0_1, (.slice A0_2 l0_2.length c0_2)] 30 (0, 0))) ∧ Aside0 (Below w.heap.size w w'))
        case atStart => exact ⟨(x5_1), (false), (0), (by first | rfl | (simp; done) | (simp [*]; done)), (by first | rfl | (simp; done) | (simp [*]; done)), H', ⟨Nat.le_refl _⟩, ⟨by (with_reducible repeat (first | apply Kd.R_alloc | apply Kd.R_drewN | apply Kd.R_drew)); exact HO_5.out⟩, ⟨by (with_reducible repeat (first | refine blk_drewN ?_ _ | refine blk_drew ?_ | refine blk_alloc ?_ _)); exact BK101.out⟩, ⟨by repeat (first | (with_reducible first | exact HB.out | apply below_alloc | apply pw_below_drewN | apply below_drew1 | refine below_set ?_ GE101.out) | exact HB.out)⟩⟩
        case round =>
          clear H'
          try clear p2
          try clear c4
          try clear hcz5_0
          try clear hcz5_1
          try clear hcz5_2
          try clear hfz5_0
          try clear hfz5_1
          try clear hfz5_2
          try clear p2
          obtain ⟨x5_2, x6_2, x16_2, rfl, rfl, HA, HK2, HO_5, BK101, HB⟩ := hrel
          cases gk with
          | zero => exact absurd HA.out (by simp [spec_l3Close.l1])
          | succ k2 =>
            have H := HA.out
            clear HA
            simp only [spec_l3Close.l1] at H
            by_cases c6 : x16_2 < (l0_2.length : Int)
            · rw [if_pos c6] at H
              have c6b0 : decide (x16_2 < (l0_2.length : Int)) = true := decide_eq_true c6
              clear c6
              by_cases c7 : 0 ≤ x16_2
              · rw [if_pos c7] at H
                have c7b0 : decide (0 ≤ x16_2) = true := decide_eq_true c7
                clear c7
                by_cases c8 : x16_2 < (l0_2.length : Int)
                · rw [if_pos c8] at H
                  have c8b0 : decide (x16_2 < (l0_2.length : Int)) = true := decide_eq_true c8
                  clear c8
                  replace H := Option.bind_eq_some_iff.mp H
                  obtain ⟨t104, A90, H⟩ := H
                  replace H : (spec_l3Close.l2 k2 a1 x5_2 x6_2 (!t104) l0_2 (l0_2.length : Int) x16_2 ((rd_T47 l0_2 x16_2).f1) (((rd_T47 l0_2 x16_2).f1).length : Int) 0 a0_0 a0_1 l0_2 ((rd_T47 l0_2 x16_2).f0) ((rd_T47 l0_2 x16_2).f1)) = some r := H
                  have A9 := Aside0.mk A90
                  clear A90
                  have H' := Aside0.mk H
                  clear H
                  have p102 : 0 ≤ (x16_2 : Int) := of_decide_eq_true (by first | (with_reducible assumption) | assumption)
                  have q102 : x16_2 < (l0_2.length : Int) := of_decide_eq_true (by first | (with_reducible assumption) | assumption)
                  obtain ⟨ad102, A102_1, c102_1, e102, hx102_0, hx102_1, hl102_1, hi102_1⟩ := at_T47 HR0_2.out x16_2 p102 q102
                  cases e102
                  replace hx102_0 := (HB.out.cell (World.block_lt_of_cell? w _ hx102_0)).trans hx102_0
                  replace hx102_1 := (HB.out.cell (World.block_lt_of_cell? w _ hx102_1)).trans hx102_1
                  have HR102_1 := Aside0.mk hi102_1
                  have HC102_1 := Aside0.mk hl102_1
                  clear hi102_1 hl102_1
                  replace p102 := eq_true p102
                  replace q102 := eq_true q102
                  go_wp2_with (first | ((with_reducible refine gate_dst (N := 8) rfl ?_); refine box_event ?hg (N := 8) ?hd (cs := #[.int .i64 0, .slice none 0 0]) (t := 47) ?hr ?_; (case hd => rfl); (case hg => rfl); (case hr => first | (go_simp; done) | (go_simp; rfl)); intro gb103 hg w10 hbox hb; have n0_ := Aside0.mk (Kd.R_below (by (with_reducible repeat (first | apply Kd.R_alloc | apply Kd.R_drewN | apply Kd.R_drew)); exact HO_5.out) hb); have n1_ := Aside0.mk (blk_below (g := gb101) (o := .cells #[.int .i64 a0_0, .int .i64 a0_1, .slice (some ad102) l0_2.length c0_2] 30 (0, 0)) (by (with_reducible repeat (first | refine blk_drewN ?_ _ | refine blk_drew ?_ | refine blk_alloc ?_ _)); exact BK101.out) hb); have n2_ := Aside0.mk (below_step (by repeat (first | (with_reducible first | exact HB.out | apply below_alloc | apply pw_below_drewN | apply below_drew1 | refine below_set ?_ GE101.out) | exact HB.out)) hb); have n3_ := Aside0.mk (hbox); have n4_ := Aside0.mk ((by rw [hg]; exact (below_size (by repeat (first | (with_reducible first | exact HB.out | apply below_alloc | apply pw_below_drewN | apply below_drew1 | refine below_set ?_ GE101.out) | exact HB.out))) : w.heap.size ≤ gb103)); have n5_ := Aside0.mk ((by rw [hg]; exact (below_size (by repeat (first | (with_reducible first | exact HB.out | apply below_alloc | apply pw_below_drewN | apply below_drew1 | refine below_set ?_ GE101.out) | exact HB.out))) : w.heap.size ≤ gb103)); have n6_ := Aside0.mk ((by rw [hg]; exact Nat.ne_of_lt (blk_lt (g := gb101) (o := .cells #[.int .i64 a0_0, .int .i64 a0_1, .slice (some ad102) l0_2.length c0_2] 30 (0, 0)) (by (with_reducible repeat (first | refine blk_drewN ?_ _ | refine blk_drew ?_ | refine blk_alloc ?_ _)); exact BK101.out)) : gb101 ≠ gb103)); have n7_ := Aside0.mk ((by rw [hg]; exact Nat.ne_of_gt (blk_lt (g := gb101) (o := .cells #[.int .i64 a0_0, .int .i64 a0_1, .slice (some ad102) l0_2.length c0_2] 30 (0, 0)) (by (with_reducible repeat (first | refine blk_drewN ?_ _ | refine blk_drew ?_ | refine blk_alloc ?_ _)); exact BK101.out)) : gb103 ≠ gb101)); clear HO_5; clear BK101; clear HB; have HO_5 := n0_; have BK101 := n1_; have HB := n2_; have BK103 := n3_; have GW103 := n4_; have GE103 := n5_; have NB101_103 := n6_; have NB103_101 := n7_; clear n0_ n1_ n2_ n3_ n4_ n5_ n6_ n7_; clear hb hbox hg; have hnb11 := NB103_101.out; have hnc11 := NB101_103.out; have hcz12_0 : w10.cell? ⟨gb103, 0, none⟩ = some (.int .i64 0) := (blk_cell BK103.out 0).trans rfl; have hcz12_1 : w10.cell? ⟨gb103, 1, none⟩ = some (.slice none 0 0) := (blk_cell BK103.out 1).trans rfl; have hfz12_0 := blk_frozen BK103.out 0; have hfz12_1 := blk_frozen BK103.out 1; obtain ⟨Ao13, co13, eo13⟩ := Kd.R_slice HO_5.out; subst eo13) | ((with_reducible refine gate_callee (f := 66) rfl ?_); refine goesL_ (some 23) rfl rfl Try.func66 (by kernel_rfl) rfl #[.slice Ao13 x5_2.length co13, .int .i64 ((rd_T47 l0_2 x16_2).f0)] rfl (by (try simp only [List.map_toArray, List.map_cons, List.map_nil]); first | done | rfl | (simp only [List.length_drop, List.length_take]; rfl)) ?_; (with_reducible refine (spec_l1Has.calls k2 _ _ x5_2 ((rd_T47 l0_2 x16_2).f0) t104 _ ?side1 ?side2 A9.out).mono ?_); (case side1 => refine (Kd.R_reads' (e := 3) (base := w.heap.size) (ok := fun k_ => True) (n := x5_2.length) (c := co13) ?_).2.2; exact (by (with_reducible repeat (first | apply Kd.R_alloc | apply Kd.R_drewN | apply Kd.R_drew)); exact (Kd.R_mono (Kd.R_far (p := ⟨gb103, 1, none⟩) (Kd.R_far (p := ⟨gb103, 0, none⟩) (Kd.R_types HO_5.out BK103.out (by decide)) (fun _ hk => hk.2) (.int .i64 ((rd_T47 l0_2 x16_2).f0))) (fun _ hk => hk.2) (.slice A102_1 ((rd_T47 l0_2 x16_2).f1).length c102_1)) (fun _ h_ => h_.1)))); (case side2 => exact (Kd.R_reads' HO_5.out).2.1); rintro e w' ⟨rfl, ⟨nd, rfl⟩⟩; refine ⟨_, rfl, ?_⟩))
                  go_loopg [9, 28] k2 (fun kq v9 v28 w' => ∃ (x9_3 : Bool) (x28_3 : Int), v9 = .bool x9_3 ∧ v28 = .int .i64 x28_3 ∧ Aside0 (spec_l3Close.l2 kq a1 x5_2 x6_2 x9_3 l0_2 (l0_2.length : Int) x16_2 ((rd_T47 l0_2 x16_2).f1) (((rd_T47 l0_2 x16_2).f1).length : Int) x28_3 a0_0 a0_1 l0_2 ((rd_T47 l0_2 x16_2).f0) ((rd_T47 l0_2 x16_2).f1) = some r) ∧ Aside0 (kq ≤ k2) ∧ Aside0 (Kd.R (Kd.int .i64) 3 w' w.heap.size (fun _ => True) (.slice Ao13 x5_2.length co13) x5_2) ∧ Aside0 (w'.heap[gb101]? = some (.cells #[.int .i64 a0_0, .int .i64 a0_1, (.slice (some ad102) l0_2.length c0_2)] 30 (0, 0))) ∧ Aside0 (w'.heap[gb103]? = some (.cells #[.int .i64 ((rd_T47 l0_2 x16_2).f0), (.slice A102_1 ((rd_T47 l0_2 x16_2).f1).length c102_1)] 47 (0, 0))) ∧ Aside0 (Below w.heap.size w w'))
                  case atStart => exact ⟨(!t104), (0), (by first | rfl | (simp; done) | (simp [*]; done)), (by first | rfl | (simp; done) | (simp [*]; done)), H', ⟨Nat.le_refl _⟩, ⟨by (with_reducible repeat (first | apply Kd.R_alloc | apply Kd.R_drewN | apply Kd.R_drew)); exact Kd.R_mono (Kd.R_far (p := ⟨gb103, 1, none⟩) (Kd.R_far (p := ⟨gb103, 0, none⟩) (Kd.R_types HO_5.out BK103.out (by decide)) (fun _ hk => hk.2) (.int .i64 ((rd_T47 l0_2 x16_2).f0))) (fun _ hk => hk.2) (.slice A102_1 ((rd_T47 l0_2 x16_2).f1).length c102_1)) (fun _ hk => trivial)⟩, ⟨by (with_reducible repeat (first | refine blk_drewN ?_ _ | refine blk_drew ?_ | refine blk_alloc ?_ _)); refine blk_far ?_ NB101_103.out _; (with_reducible repeat (first | refine blk_drewN ?_ _ | refine blk_drew ?_ | refine blk_alloc ?_ _)); refine blk_far ?_ NB101_103.out _; (with_reducible repeat (first | refine blk_drewN ?_ _ | refine blk_drew ?_ | refine blk_alloc ?_ _)); exact BK101.out⟩, ⟨by (with_reducible repeat (first | refine blk_drewN ?_ _ | refine blk_drew ?_ | refine blk_alloc ?_ _)); refine blk_put (cs := #[.int .i64 ((rd_T47 l0_2 x16_2).f0), .slice none 0 0]) ?_ 1 _ rfl; (with_reducible repeat (first | refine blk_drewN ?_ _ | refine blk_drew ?_ | refine blk_alloc ?_ _)); refine blk_put (cs := #[.int .i64 0, .slice none 0 0]) ?_ 0 _ rfl; (with_reducible repeat (first | refine blk_drewN ?_ _ | refine blk_drew ?_ | refine blk_alloc ?_ _)); exact BK103.out⟩, ⟨by repeat (first | (with_reducible first | exact HB.out | apply below_alloc | apply pw_below_drewN | apply below_drew1 | refine below_set ?_ GE101.out | refine below_set ?_ GE103.out) | exact HB.out)⟩⟩
                  case round =>
                    clear H'
                    try clear c1
                    try clear p1
                    try clear q1
                    try clear hx1
                    try clear p2
                    try clear c4
                    try clear c6
                    try clear c6b0
                    try clear c7
                    try clear c7b0
                    try clear c8
                    try clear c8b0
                    try clear c10
                    try clear p10
                    try clear q10
                    try clear hx10
                    try clear c11
                    try clear hcz12_0
                    try clear hcz12_1
                    try clear hcz5_0
                    try clear hcz5_1
                    try clear hcz5_2
                    try clear hfz12_0
                    try clear hfz12_1
                    try clear hfz5_0
                    try clear hfz5_1
                    try clear hfz5_2
                    try clear hx102_0
                    try clear hx102_1
                    try clear p102
                    try clear p2
                    try clear q102
                    obtain ⟨x9_3, x28_3, rfl, rfl, HA, HK3, HO_5, BK101, BK103, HB⟩ := hrel
                    cases gk with
                    | zero => exact absurd HA.out (by simp [spec_l3Close.l2])
                    | succ k3 =>
                      have H := HA.out
                      clear HA
                      simp only [spec_l3Close.l2] at H
                      by_cases c14 : x28_3 < (((rd_T47 l0_2 x16_2).f1).length : Int)
                      · rw [if_pos c14] at H
                        have c14b0 : decide (x28_3 < (((rd_T47 l0_2 x16_2).f1).length : Int)) = true := decide_eq_true c14
                        clear c14
                        by_cases c15 : 0 ≤ x28_3
                        · rw [if_pos c15] at H
                          have c15b0 : decide (0 ≤ x28_3) = true := decide_eq_true c15
                          clear c15
                          by_cases c16 : x28_3 < (((rd_T47 l0_2 x16_2).f1).length : Int)
                          · rw [if_pos c16] at H
                            have c16b0 : decide (x28_3 < (((rd_T47 l0_2 x16_2).f1).length : Int)) = true := decide_eq_true c16
                            clear c16
                            by_cases c17 : x9_3 = true
                            · subst c17
                              have H1 : (if (rd ((rd_T47 l0_2 x16_2).f1) x28_3) < 0 then (if a1 = true then (spec_l3Close.l2 k3 a1 x5_2 x6_2 true l0_2 (l0_2.length : Int) x16_2 ((rd_T47 l0_2 x16_2).f1) (((rd_T47 l0_2 x16_2).f1).length : Int) (wrap64 (x28_3 + 1)) a0_0 a0_1 l0_2 ((rd_T47 l0_2 x16_2).f0) ((rd_T47 l0_2 x16_2).f1)) else (if (rd ((rd_T47 l0_2 x16_2).f1) x28_3) ≥ 0 then ((spec_l1Has.f k3 x5_2 (rd ((rd_T47 l0_2 x16_2).f1) x28_3)).bind fun t106 => (spec_l3Close.l2 k3 a1 x5_2 x6_2 t106 l0_2 (l0_2.length : Int) x16_2 ((rd_T47 l0_2 x16_2).f1) (((rd_T47 l0_2 x16_2).f1).length : Int) (wrap64 (x28_3 + 1)) a0_0 a0_1 l0_2 ((rd_T47 l0_2 x16_2).f0) ((rd_T47 l0_2 x16_2).f1))) else (spec_l3Close.l2 k3 a1 x5_2 x6_2 false l0_2 (l0_2.length : Int) x16_2 ((rd_T47 l0_2 x16_2).f1) (((rd_T47 l0_2 x16_2).f1).length : Int) (wrap64 (x28_3 + 1)) a0_0 a0_1 l0_2 ((rd_T47 l0_2 x16_2).f0) ((rd_T47 l0_2 x16_2).f1)))) else (if (rd ((rd_T47 l0_2 x16_2).f1) x28_3) ≥ 0 then ((spec_l1Has.f k3 x5_2 (rd ((rd_T47 l0_2 x16_2).f1) x28_3)).bind fun t107 => (spec_l3Close.l2 k3 a1 x5_2 x6_2 t107 l0_2 (l0_2.length : Int) x16_2 ((rd_T47 l0_2 x16_2).f1) (((rd_T47 l0_2 x16_2).f1).length : Int) (wrap64 (x28_3 + 1)) a0_0 a0_1 l0_2 ((rd_T47 l0_2 x16_2).f0) ((rd_T47 l0_2 x16_2).f1))) else (spec_l3Close.l2 k3 a1 x5_2 x6_2 false l0_2 (l0_2.length : Int) x16_2 ((rd_T47 l0_2 x16_2).f1) (((rd_T47 l0_2 x16_2).f1).length : Int) (wrap64 (x28_3 + 1)) a0_0 a0_1 l0_2 ((rd_T47 l0_2 x16_2).f0) ((rd_T47 l0_2 x16_2).f1)))) = some r := by rw [if_pos rfl] at H; exact H
                              clear H
                              have H := H1
                              clear H1
                              by_cases c18 : (rd ((rd_T47 l0_2 x16_2).f1) x28_3) < 0
                              · rw [if_pos c18] at H
                                have c18b0 : decide ((rd ((rd_T47 l0_2 x16_2).f1) x28_3) < 0) = true := decide_eq_true c18
                                clear c18
                                by_cases c19 : a1 = true
                                · subst c19
                                  have H1 : (spec_l3Close.l2 k3 true x5_2 x6_2 true l0_2 (l0_2.length : Int) x16_2 ((rd_T47 l0_2 x16_2).f1) (((rd_T47 l0_2 x16_2).f1).length : Int) (wrap64 (x28_3 + 1)) a0_0 a0_1 l0_2 ((rd_T47 l0_2 x16_2).f0) ((rd_T47 l0_2 x16_2).f1)) = some r := by rw [if_pos rfl] at H; exact H
                                  clear H
                                  have H := H1
                                  clear H1
                                  have H' := Aside0.mk H
                                  clear H
                                  have p105 : 0 ≤ (x28_3 : Int) := of_decide_eq_true (by first | (with_reducible assumption) | assumption)
                                  have q105 : x28_3 < (((rd_T47 l0_2 x16_2).f1).length : Int) := of_decide_eq_true (by first | (with_reducible assumption) | assumption)
                                  obtain ⟨ad105, e105, hx105_0⟩ := Kd.at_int HR102_1.out x28_3 p105 q105
                                  cases e105
                                  replace hx105_0 := (HB.out.cell (World.block_lt_of_cell? w _ hx105_0)).trans hx105_0
                                  replace p105 := eq_true p105
                                  replace q105 := eq_true q105
                                  go_wp2
                                  go_roundg k3
                                  case measure => have := HK1.out; have := HK2.out; have := HK3.out; omega
                                  case rel => exact ⟨(true), (wrap64 (x28_3 + 1)), (by first | rfl | (simp; done) | (simp [*]; done)), (by first | rfl | (simp; done) | (simp [*]; done)), H', ⟨by have := HK1.out; have := HK2.out; have := HK3.out; omega⟩, ⟨by (with_reducible repeat (first | apply Kd.R_alloc | apply Kd.R_drewN | apply Kd.R_drew)); exact HO_5.out⟩, ⟨by (with_reducible repeat (first | refine blk_drewN ?_ _ | refine blk_drew ?_ | refine blk_alloc ?_ _)); exact BK101.out⟩, ⟨by (with_reducible repeat (first | refine blk_drewN ?_ _ | refine blk_drew ?_ | refine blk_alloc ?_ _)); exact BK103.out⟩, ⟨by repeat (first | (with_reducible first | exact HB.out | apply below_alloc | apply pw_below_drewN | apply below_drew1 | refine below_set ?_ GE101.out | refine below_set ?_ GE103.out) | exact HB.out)⟩⟩
                                · replace c19 := Bool.eq_false_iff.mpr c19
                                  subst c19
                                  have H1 : (if (rd ((rd_T47 l0_2 x16_2).f1) x28_3) ≥ 0 then ((spec_l1Has.f k3 x5_2 (rd ((rd_T47 l0_2 x16_2).f1) x28_3)).bind fun t106 => (spec_l3Close.l2 k3 false x5_2 x6_2 t106 l0_2 (l0_2.length : Int) x16_2 ((rd_T47 l0_2 x16_2).f1) (((rd_T47 l0_2 x16_2).f1).length : Int) (wrap64 (x28_3 + 1)) a0_0 a0_1 l0_2 ((rd_T47 l0_2 x16_2).f0) ((rd_T47 l0_2 x16_2).f1))) else (spec_l3Close.l2 k3 false x5_2 x6_2 false l0_2 (l0_2.length : Int) x16_2 ((rd_T47 l0_2 x16_2).f1) (((rd_T47 l0_2 x16_2).f1).length : Int) (wrap64 (x28_3 + 1)) a0_0 a0_1 l0_2 ((rd_T47 l0_2 x16_2).f0) ((rd_T47 l0_2 x16_2).f1))) = some r := by rw [if_neg (show ¬ (false = true) by decide)] at H; exact H
                                  clear H
                                  have H := H1
                                  clear H1
                                  by_cases c20 : (rd ((rd_T47 l0_2 x16_2).f1) x28_3) ≥ 0
                                  · rw [if_pos c20] at H
                                    have c20b0 : decide (0 ≤ (rd ((rd_T47 l0_2 x16_2).f1) x28_3)) = true := decide_eq_true c20
                                    clear c20
                                    replace H := Option.bind_eq_some_iff.mp H
                                    obtain ⟨t106, A210, H⟩ := H
                                    replace H : (spec_l3Close.l2 k3 false x5_2 x6_2 t106 l0_2 (l0_2.length : Int) x16_2 ((rd_T47 l0_2 x16_2).f1) (((rd_T47 l0_2 x16_2).f1).length : Int) (wrap64 (x28_3 + 1)) a0_0 a0_1 l0_2 ((rd_T47 l0_2 x16_2).f0) ((rd_T47 l0_2 x16_2).f1)) = some r := H
                                    have A21 := Aside0.mk A210
                                    clear A210
                                    have H' := Aside0.mk H
                                    clear H
                                    have p105 : 0 ≤ (x28_3 : Int) := of_decide_eq_true (by first | (with_reducible assumption) | assumption)
                                    have q105 : x28_3 < (((rd_T47 l0_2 x16_2).f1).length : Int) := of_decide_eq_true (by first | (with_reducible assumption) | assumption)
                                    obtain ⟨ad105, e105, hx105_0⟩ := Kd.at_int HR102_1.out x28_3 p105 q105
                                    cases e105
                                    replace hx105_0 := (HB.out.cell (World.block_lt_of_cell? w _ hx105_0)).trans hx105_0
                                    replace p105 := eq_true p105
                                    replace q105 := eq_true q105
                                    go_wp2_with (first | (go_at_call 66; (with_reducible refine (spec_l1Has.calls k3 _ _ x5_2 (rd ((rd_T47 l0_2 x16_2).f1) x28_3) t106 _ ?side1 ?side2 A21.out).mono ?_); (case side1 => repeat (first | exact (Kd.R_reads' HO_5.out).2.2 | (with_reducible refine Kd.C_alloc ?_ _) | (with_reducible refine Kd.C_drewN ?_ _) | (with_reducible refine Kd.C_drew ?_))); (case side2 => exact (Kd.R_reads' HO_5.out).2.1); rintro e w' ⟨rfl, ⟨nd, rfl⟩⟩))
                                    go_roundg k3
                                    case measure => have := HK1.out; have := HK2.out; have := HK3.out; omega
                                    case rel => exact ⟨(t106), (wrap64 (x28_3 + 1)), (by first | rfl | (simp; done) | (simp [*]; done)), (by first | rfl | (simp; done) | (simp [*]; done)), H', ⟨by have := HK1.out; have := HK2.out; have := HK3.out; omega⟩, ⟨by (with_reducible repeat (first | apply Kd.R_alloc | apply Kd.R_drewN | apply Kd.R_drew)); exact HO_5.out⟩, ⟨by (with_reducible repeat (first | refine blk_drewN ?_ _ | refine blk_drew ?_ | refine blk_alloc ?_ _)); exact BK101.out⟩, ⟨by (with_reducible repeat (first | refine blk_drewN ?_ _ | refine blk_drew ?_ | refine blk_alloc ?_ _)); exact BK103.out⟩, ⟨by repeat (first | (with_reducible first | exact HB.out | apply below_alloc | apply pw_below_drewN | apply below_drew1 | refine below_set ?_ GE101.out | refine below_set ?_ GE103.out) | exact HB.out)⟩⟩
                                  · rw [if_neg c20] at H
                                    have c20b0 : decide (0 ≤ (rd ((rd_T47 l0_2 x16_2).f1) x28_3)) = false := decide_eq_false c20
                                    clear c20
                                    have H' := Aside0.mk H
                                    clear H
                                    have p105 : 0 ≤ (x28_3 : Int) := of_decide_eq_true (by first | (with_reducible assumption) | assumption)
                                    have q105 : x28_3 < (((rd_T47 l0_2 x16_2).f1).length : Int) := of_decide_eq_true (by first | (with_reducible assumption) | assumption)
                                    obtain ⟨ad105, e105, hx105_0⟩ := Kd.at_int HR102_1.out x28_3 p105 q105
                                    cases e105
                                    replace hx105_0 := (HB.out.cell (World.block_lt_of_cell? w _ hx105_0)).trans hx105_0
                                    replace p105 := eq_true p105
                                    replace q105 := eq_true q105
                                    go_wp2
                                    go_roundg k3
                                    case measure => have := HK1.out; have := HK2.out; have := HK3.out; omega
                                    case rel => exact ⟨(false), (wrap64 (x28_3 + 1)), (by first | rfl | (simp; done) | (simp [*]; done)), (by first | rfl | (simp; done) | (simp [*]; done)), H', ⟨by have := HK1.out; have := HK2.out; have := HK3.out; omega⟩, ⟨by (with_reducible repeat (first | apply Kd.R_alloc | apply Kd.R_drewN | apply Kd.R_drew)); exact HO_5.out⟩, ⟨by (with_reducible repeat (first | refine blk_drewN ?_ _ | refine blk_drew ?_ | refine blk_alloc ?_ _)); exact BK101.out⟩, ⟨by (with_reducible repeat (first | refine blk_drewN ?_ _ | refine blk_drew ?_ | refine blk_alloc ?_ _)); exact BK103.out⟩, ⟨by repeat (first | (with_reducible first | exact HB.out | apply below_alloc | apply pw_below_drewN | apply below_drew1 | refine below_set ?_ GE101.out | refine below_set ?_ GE103.out) | exact HB.out)⟩⟩
                              · rw [if_neg c18] at H
                                have c18b0 : decide ((rd ((rd_T47 l0_2 x16_2).f1) x28_3) < 0) = false := decide_eq_false c18
                                clear c18
                                by_cases c22 : (rd ((rd_T47 l0_2 x16_2).f1) x28_3) ≥ 0
                                · rw [if_pos c22] at H
                                  have c22b0 : decide (0 ≤ (rd ((rd_T47 l0_2 x16_2).f1) x28_3)) = true := decide_eq_true c22
                                  clear c22
                                  replace H := Option.bind_eq_some_iff.mp H
                                  obtain ⟨t107, A230, H⟩ := H
                                  replace H : (spec_l3Close.l2 k3 a1 x5_2 x6_2 t107 l0_2 (l0_2.length : Int) x16_2 ((rd_T47 l0_2 x16_2).f1) (((rd_T47 l0_2 x16_2).f1).length : Int) (wrap64 (x28_3 + 1)) a0_0 a0_1 l0_2 ((rd_T47 l0_2 x16_2).f0) ((rd_T47 l0_2 x16_2).f1)) = some r := H
                                  have A23 := Aside0.mk A230
                                  clear A230
                                  have H' := Aside0.mk H
                                  clear H
                                  have p105 : 0 ≤ (x28_3 : Int) := of_decide_eq_true (by first | (with_reducible assumption) | assumption)
                                  have q105 : x28_3 < (((rd_T47 l0_2 x16_2).f1).length : Int) := of_decide_eq_true (by first | (with_reducible assumption) | assumption)
                                  obtain ⟨ad105, e105, hx105_0⟩ := Kd.at_int HR102_1.out x28_3 p105 q105
                                  cases e105
                                  replace hx105_0 := (HB.out.cell (World.block_lt_of_cell? w _ hx105_0)).trans hx105_0
                                  replace p105 := eq_true p105
                                  replace q105 := eq_true q105
                                  go_wp2_with (first | (go_at_call 66; (with_reducible refine (spec_l1Has.calls k3 _ _ x5_2 (rd ((rd_T47 l0_2 x16_2).f1) x28_3) t107 _ ?side1 ?side2 A23.out).mono ?_); (case side1 => repeat (first | exact (Kd.R_reads' HO_5.out).2.2 | (with_reducible refine Kd.C_alloc ?_ _) | (with_reducible refine Kd.C_drewN ?_ _) | (with_reducible refine Kd.C_drew ?_))); (case side2 => exact (Kd.R_reads' HO_5.out).2.1); rintro e w' ⟨rfl, ⟨nd, rfl⟩⟩))
                                  go_roundg k3
                                  case measure => have := HK1.out; have := HK2.out; have := HK3.out; omega
                                  case rel => exact ⟨(t107), (wrap64 (x28_3 + 1)), (by first | rfl | (simp; done) | (simp [*]; done)), (by first | rfl | (simp; done) | (simp [*]; done)), H', ⟨by have := HK1.out; have := HK2.out; have := HK3.out; omega⟩, ⟨by (with_reducible repeat (first | apply Kd.R_alloc | apply Kd.R_drewN | apply Kd.R_drew)); exact HO_5.out⟩, ⟨by (with_reducible repeat (first | refine blk_drewN ?_ _ | refine blk_drew ?_ | refine blk_alloc ?_ _)); exact BK101.out⟩, ⟨by (with_reducible repeat (first | refine blk_drewN ?_ _ | refine blk_drew ?_ | refine blk_alloc ?_ _)); exact BK103.out⟩, ⟨by repeat (first | (with_reducible first | exact HB.out | apply below_alloc | apply pw_below_drewN | apply below_drew1 | refine below_set ?_ GE101.out | refine below_set ?_ GE103.out) | exact HB.out)⟩⟩
                                · rw [if_neg c22] at H
                                  have c22b0 : decide (0 ≤ (rd ((rd_T47 l0_2 x16_2).f1) x28_3)) = false := decide_eq_false c22
                                  clear c22
                                  have H' := Aside0.mk H
                                  clear H
                                  have p105 : 0 ≤ (x28_3 : Int) := of_decide_eq_true (by first | (with_reducible assumption) | assumption)
                                  have q105 : x28_3 < (((rd_T47 l0_2 x16_2).f1).length : Int) := of_decide_eq_true (by first | (with_reducible assumption) | assumption)
                                  obtain ⟨ad105, e105, hx105_0⟩ := Kd.at_int HR102_1.out x28_3 p105 q105
                                  cases e105
                                  replace hx105_0 := (HB.out.cell (World.block_lt_of_cell? w _ hx105_0)).trans hx105_0
                                  replace p105 := eq_true p105
                                  replace q105 := eq_true q105
                                  go_wp2
                                  go_roundg k3
                                  case measure => have := HK1.out; have := HK2.out; have := HK3.out; omega
                                  case rel => exact ⟨(false), (wrap64 (x28_3 + 1)), (by first | rfl | (simp; done) | (simp [*]; done)), (by first | rfl | (simp; done) | (simp [*]; done)), H', ⟨by have := HK1.out; have := HK2.out; have := HK3.out; omega⟩, ⟨by (with_reducible repeat (first | apply Kd.R_alloc | apply Kd.R_drewN | apply Kd.R_drew)); exact HO_5.out⟩, ⟨by (with_reducible repeat (first | refine blk_drewN ?_ _ | refine blk_drew ?_ | refine blk_alloc ?_ _)); exact BK101.out⟩, ⟨by (with_reducible repeat (first | refine blk_drewN ?_ _ | refine blk_drew ?_ | refine blk_alloc ?_ _)); exact BK103.out⟩, ⟨by repeat (first | (with_reducible first | exact HB.out | apply below_alloc | apply pw_below_drewN | apply below_drew1 | refine below_set ?_ GE101.out | refine below_set ?_ GE103.out) | exact HB.out)⟩⟩
                            · replace c17 := Bool.eq_false_iff.mpr c17
                              subst c17
                              have H1 : (spec_l3Close.l2 k3 a1 x5_2 x6_2 false l0_2 (l0_2.length : Int) x16_2 ((rd_T47 l0_2 x16_2).f1) (((rd_T47 l0_2 x16_2).f1).length : Int) (wrap64 (x28_3 + 1)) a0_0 a0_1 l0_2 ((rd_T47 l0_2 x16_2).f0) ((rd_T47 l0_2 x16_2).f1)) = some r := by rw [if_neg (show ¬ (false = true) by decide)] at H; exact H
                              clear H
                              have H := H1
                              clear H1
                              have H' := Aside0.mk H
                              clear H
                              have p105 : 0 ≤ (x28_3 : Int) := of_decide_eq_true (by first | (with_reducible assumption) | assumption)
                              have q105 : x28_3 < (((rd_T47 l0_2 x16_2).f1).length : Int) := of_decide_eq_true (by first | (with_reducible assumption) | assumption)
                              obtain ⟨ad105, e105, hx105_0⟩ := Kd.at_int HR102_1.out x28_3 p105 q105
                              cases e105
                              replace hx105_0 := (HB.out.cell (World.block_lt_of_cell? w _ hx105_0)).trans hx105_0
                              replace p105 := eq_true p105
                              replace q105 := eq_true q105
                              go_wp2
                              go_roundg k3
                              case measure => have := HK1.out; have := HK2.out; have := HK3.out; omega
                              case rel => exact ⟨(false), (wrap64 (x28_3 + 1)), (by first | rfl | (simp; done) | (simp [*]; done)), (by first | rfl | (simp; done) | (simp [*]; done)), H', ⟨by have := HK1.out; have := HK2.out; have := HK3.out; omega⟩, ⟨by (with_reducible repeat (first | apply Kd.R_alloc | apply Kd.R_drewN | apply Kd.R_drew)); exact HO_5.out⟩, ⟨by (with_reducible repeat (first | refine blk_drewN ?_ _ | refine blk_drew ?_ | refine blk_alloc ?_ _)); exact BK101.out⟩, ⟨by (with_reducible repeat (first | refine blk_drewN ?_ _ | refine blk_drew ?_ | refine blk_alloc ?_ _)); exact BK103.out⟩, ⟨by repeat (first | (with_reducible first | exact HB.out | apply below_alloc | apply pw_below_drewN | apply below_drew1 | refine below_set ?_ GE101.out | refine below_set ?_ GE103.out) | exact HB.out)⟩⟩
                          · rw [if_neg c16] at H
                            exact absurd H (by simp)
                        · rw [if_neg c15] at H
                          exact absurd H (by simp)
                      · rw [if_neg c14] at H
                        have c14b0 : decide (x28_3 < (((rd_T47 l0_2 x16_2).f1).length : Int)) = false := decide_eq_false c14
                        clear c14
                        by_cases c24 : x9_3 = true
                        · subst c24
                          have H1 : ((spec_l1Put.f k3 x5_2 ((rd_T47 l0_2 x16_2).f0)).bind fun t108 => (spec_l3Close.l1 k3 a1 t108 true l0_2 (l0_2.length : Int) (wrap64 (x16_2 + 1)) a0_0 a0_1 l0_2)) = some r := by rw [if_pos rfl] at H; exact H
                          clear H
                          have H := H1
                          clear H1
                          replace H := Option.bind_eq_some_iff.mp H
                          obtain ⟨t108, A250, H⟩ := H
                          replace H : (spec_l3Close.l1 k3 a1 t108 true l0_2 (l0_2.length : Int) (wrap64 (x16_2 + 1)) a0_0 a0_1 l0_2) = some r := H
                          have A25 := Aside0.mk A250
                          clear A250
                          have H' := Aside0.mk H
                          clear H
                          have hnb26 := NB103_101.out
                          have hnc26 := NB101_103.out
                          have hcz27_0 : wr.cell? ⟨gb103, 0, none⟩ = some (.int .i64 ((rd_T47 l0_2 x16_2).f0)) := (blk_cell BK103.out 0).trans rfl
                          have hcz27_1 : wr.cell? ⟨gb103, 1, none⟩ = some (.slice A102_1 ((rd_T47 l0_2 x16_2).f1).length c102_1) := (blk_cell BK103.out 1).trans rfl
                          have hfz27_0 := blk_frozen BK103.out 0
                          have hfz27_1 := blk_frozen BK103.out 1
                          go_wp2_with (first | ((with_reducible refine gate_callee (f := 67) rfl ?_); refine goesL_ (some 54) rfl rfl Try.func67 (by kernel_rfl) rfl #[.slice Ao13 x5_2.length co13, .int .i64 ((rd_T47 l0_2 x16_2).f0)] rfl (by (try simp only [List.map_toArray, List.map_cons, List.map_nil]); first | done | rfl | (simp only [List.length_drop, List.length_take]; rfl)) ?_; (with_reducible refine (spec_l1Put.calls k3 (fun k_ => some k_ = (.slice Ao13 x5_2.length co13 : Value).ownBlock) (.slice Ao13 x5_2.length co13) x5_2 ((rd_T47 l0_2 x16_2).f0) t108 w _ ?side1 ?side2 A25.out).mono ?_); (case side1 => repeat (first | (with_reducible first | exact HB.out | apply below_alloc | apply pw_below_drewN | apply below_drew1 | refine below_set ?_ GE101.out | refine below_set ?_ GE103.out) | exact HB.out)); (case side2 => exact Kd.R_tight rfl HO_5.out); rintro e w28 ⟨v109, rfl, ho0, hb, hkp⟩; refine ⟨_, rfl, ?_⟩; have n0_ := Aside0.mk (blk_kept (by (with_reducible repeat (first | refine blk_drewN ?_ _ | refine blk_drew ?_ | refine blk_alloc ?_ _)); exact BK101.out) hkp (fun hs_ => (fun e_ => (Kd.R_ne HO_5.out BK101.out (by decide)) e_) hs_)); have n1_ := Aside0.mk (blk_kept (by (with_reducible repeat (first | refine blk_drewN ?_ _ | refine blk_drew ?_ | refine blk_alloc ?_ _)); exact BK103.out) hkp (fun hs_ => (fun e_ => (Kd.R_ne HO_5.out BK103.out (by decide)) e_) hs_)); have n2_ := Aside0.mk (Kd.R_mono (ok' := fun k_ => True) ho0 (fun k_ hk_ => trivial)); have n3_ := Aside0.mk (hb); clear BK101; clear BK103; clear HB; clear HO_5; have BK101 := n0_; have BK103 := n1_; have HO110 := n2_; have HB := n3_; clear n0_ n1_ n2_ n3_; (try clear hb); (try clear hkp); (try clear ho0)))
                          go_roundg k3
                          case measure => have := HK1.out; have := HK2.out; have := HK3.out; omega
                          case rel => exact ⟨(t108), (true), (wrap64 (x16_2 + 1)), (by first | rfl | (simp; done) | (simp [*]; done)), (by first | rfl | (simp; done) | (simp [*]; done)), H', ⟨by have := HK1.out; have := HK2.out; have := HK3.out; omega⟩, ⟨by (with_reducible repeat (first | apply Kd.R_alloc | apply Kd.R_drewN | apply Kd.R_drew)); exact HO110.out⟩, ⟨by (with_reducible repeat (first | refine blk_drewN ?_ _ | refine blk_drew ?_ | refine blk_alloc ?_ _)); exact BK101.out⟩, ⟨by repeat (first | (with_reducible first | exact HB.out | apply below_alloc | apply pw_below_drewN | apply below_drew1 | refine below_set ?_ GE101.out | refine below_set ?_ GE103.out) | exact HB.out)⟩⟩
                        · replace c24 := Bool.eq_false_iff.mpr c24
                          subst c24
                          have H1 : (spec_l3Close.l1 k3 a1 x5_2 x6_2 l0_2 (l0_2.length : Int) (wrap64 (x16_2 + 1)) a0_0 a0_1 l0_2) = some r := by rw [if_neg (show ¬ (false = true) by decide)] at H; exact H
                          clear H
                          have H := H1
                          clear H1
                          have H' := Aside0.mk H
                          clear H
                          go_wp2
                          go_roundg k3
                          case measure => have := HK1.out; have := HK2.out; have := HK3.out; omega
                          case rel => exact ⟨(x5_2), (x6_2), (wrap64 (x16_2 + 1)), (by first | rfl | (simp; done) | (simp [*]; done)), (by first | rfl | (simp; done) | (simp [*]; done)), H', ⟨by have := HK1.out; have := HK2.out; have := HK3.out; omega⟩, ⟨by (with_reducible repeat (first | apply Kd.R_alloc | apply Kd.R_drewN | apply Kd.R_drew)); exact HO_5.out⟩, ⟨by (with_reducible repeat (first | refine blk_drewN ?_ _ | refine blk_drew ?_ | refine blk_alloc ?_ _)); exact BK101.out⟩, ⟨by repeat (first | (with_reducible first | exact HB.out | apply below_alloc | apply pw_below_drewN | apply below_drew1 | refine below_set ?_ GE101.out | refine below_set ?_ GE103.out) | exact HB.out)⟩⟩
                · rw [if_neg c8] at H
                  exact absurd H (by simp)
              · rw [if_neg c7] at H
                exact absurd H (by simp)
            · rw [if_neg c6] at H
              have c6b0 : decide (x16_2 < (l0_2.length : Int)) = false := decide_eq_false c6
              clear c6
              have H' := Aside0.mk H
              clear H
              go_wp2
              go_roundg k2
              case measure => have := HK1.out; have := HK2.out; omega
              case rel => exact ⟨(x5_2), (x6_2), (by first | rfl | (simp; done) | (simp [*]; done)), H', ⟨by have := HK1.out; have := HK2.out; omega⟩, ⟨by (with_reducible repeat (first | apply Kd.R_alloc | apply Kd.R_drewN | apply Kd.R_drew)); exact HO_5.out⟩, ⟨by (with_reducible repeat (first | refine blk_drewN ?_ _ | refine blk_drew ?_ | refine blk_alloc ?_ _)); exact BK101.out⟩, ⟨by repeat (first | (with_reducible first | exact HB.out | apply below_alloc | apply pw_below_drewN | apply below_drew1 | refine below_set ?_ GE101.out) | exact HB.out)⟩⟩
      · replace c4 := Bool.eq_false_iff.mpr c4
        subst c4
        have H1 : (some x5_1) = some r := by rw [if_neg (show ¬ (false = true) by decide)] at H; exact H
        clear H
        have H := H1
        clear H1
        obtain rfl := Option.some.inj H
        go_wp2
        go_ret
        exact ⟨_, by first | rfl | (simp [errW_none, errW_some] <;> rfl) | (simp [*, errW_none, errW_some] <;> rfl), by (with_reducible repeat (first | apply Kd.R_alloc | apply Kd.R_drewN | apply Kd.R_drew)); exact HO_5.out, by repeat (first | (with_reducible first | exact HB.out | apply below_alloc | apply pw_below_drewN | apply below_drew1 | refine below_set ?_ GE101.out) | exact HB.out)⟩
end Go.Proofs.Ytohbdjdjjbieeaa.P
namespace Go.Proofs.Ytohbdjdjjbieeaa.P
open Go.RowKit Go.Proofs.YtohbdjdjjbieeaaW.PrintWords Go.Proofs.YtohbdjdjjbieeaaW.PrintLast Go.Proofs.YtohbdjdjjbieeaaW.PrintMore
attribute [local go_sem] max2_int min2_int max_two min_two max_three min_three max_four min_four
set_option linter.unusedVariables false
set_option linter.unusedSimpArgs false
mutual
def spec_l3Growing.l0 : Nat → List Int → List Int → Bool → Int → Int → List (S47) → Option (List Int)
  | 0, _, _, _, _, _, _ => none
  | k + 1, x3, x4, x5, x102000, x102001, x102002 => if x5 = true then (spec_l3Growing.l1 k x3 x4 false x102002 (x102002.length : Int) 0 x102000 x102001 x102002) else (some x4)
def spec_l3Growing.l1 : Nat → List Int → List Int → Bool → List (S47) → Int → Int → Int → Int → List (S47) → Option (List Int)
  | 0, _, _, _, _, _, _, _, _, _ => none
  | k + 1, x3, x4, x5, x16, x17, x18, x102000, x102001, x102002 => if x18 < x17 then (if 0 ≤ x18 then (if x18 < (x16.length : Int) then (spec_l3Growing.l2 k x3 x4 x5 true false x16 x17 x18 ((rd_T47 x16 x18).f1) (((rd_T47 x16 x18).f1).length : Int) 0 x102000 x102001 x102002 ((rd_T47 x16 x18).f0) ((rd_T47 x16 x18).f1)) else (none)) else (none)) else (spec_l3Growing.l0 k x3 x4 x5 x102000 x102001 x102002)
def spec_l3Growing.l2 : Nat → List Int → List Int → Bool → Bool → Bool → List (S47) → Int → Int → List Int → Int → Int → Int → Int → List (S47) → Int → List Int → Option (List Int)
  | 0, _, _, _, _, _, _, _, _, _, _, _, _, _, _, _, _ => none
  | k + 1, x3, x4, x5, x8, x9, x16, x17, x18, x23, x24, x25, x102000, x102001, x102002, x107000, x107001 => if x25 < x24 then (if 0 ≤ x25 then (if x25 < (x23.length : Int) then (if x8 = true then (if (rd x23 x25) < 0 then (if x9 = true then (spec_l3Growing.l2 k x3 x4 x5 true true x16 x17 x18 x23 x24 (wrap64 (x25 + 1)) x102000 x102001 x102002 x107000 x107001) else (spec_l3Growing.l2 k x3 x4 x5 true true x16 x17 x18 x23 x24 (wrap64 (x25 + 1)) x102000 x102001 x102002 x107000 x107001)) else ((spec_l1Has.f k x3 (rd x23 x25)).bind fun t108 => (if x9 = true then (spec_l3Growing.l2 k x3 x4 x5 t108 true x16 x17 x18 x23 x24 (wrap64 (x25 + 1)) x102000 x102001 x102002 x107000 x107001) else ((spec_l1Has.f k x4 (rd x23 x25)).bind fun t109 => (spec_l3Growing.l2 k x3 x4 x5 t108 t109 x16 x17 x18 x23 x24 (wrap64 (x25 + 1)) x102000 x102001 x102002 x107000 x107001))))) else (if x9 = true then (spec_l3Growing.l2 k x3 x4 x5 false true x16 x17 x18 x23 x24 (wrap64 (x25 + 1)) x102000 x102001 x102002 x107000 x107001) else (if (rd x23 x25) < 0 then (spec_l3Growing.l2 k x3 x4 x5 false true x16 x17 x18 x23 x24 (wrap64 (x25 + 1)) x102000 x102001 x102002 x107000 x107001) else ((spec_l1Has.f k x4 (rd x23 x25)).bind fun t110 => (spec_l3Growing.l2 k x3 x4 x5 false t110 x16 x17 x18 x23 x24 (wrap64 (x25 + 1)) x102000 x102001 x102002 x107000 x107001))))) else (none)) else (none)) else (if x8 = true then (if x9 = true then ((spec_l1Has.f k x4 x107000).bind fun t111 => (if t111 = true then (spec_l3Growing.l1 k x3 x4 x5 x16 x17 (wrap64 (x18 + 1)) x102000 x102001 x102002) else ((spec_l1Put.f k x4 x107000).bind fun t112 => (spec_l3Growing.l1 k x3 t112 true x16 x17 (wrap64 (x18 + 1)) x102000 x102001 x102002)))) else (spec_l3Growing.l1 k x3 x4 x5 x16 x17 (wrap64 (x18 + 1)) x102000 x102001 x102002)) else (spec_l3Growing.l1 k x3 x4 x5 x16 x17 (wrap64 (x18 + 1)) x102000 x102001 x102002))
end
def spec_l3Growing.f (k : Nat) (a0_0 : Int) (a0_1 : Int) (l0_2 : List (S47)) : Option (List Int) := (spec_l3Close.f k a0_0 a0_1 l0_2 true).bind fun t102 => (spec_l3Growing.l0 k t102 ([] : List Int) true a0_0 a0_1 l0_2)
end Go.Proofs.Ytohbdjdjjbieeaa.P
namespace Go.Proofs.Ytohbdjdjjbieeaa.P
open Go.RowKit Go.Proofs.YtohbdjdjjbieeaaW.PrintWords
set_option linter.unusedVariables false
set_option linter.unusedSimpArgs false
theorem has_all : ∀ (b0 b1 b2 b3 b4 b5 : Bool) (n : Fin 6), spec_l1Has.f 10 (placesF 0 [b0, b1, b2, b3, b4, b5]) (n.val : Int) = some ([b0, b1, b2, b3, b4, b5].getD n.val false) := by decide +kernel
theorem put_all : ∀ (b0 b1 b2 b3 b4 b5 : Bool) (n : Fin 6), spec_l1Put.f 10 (placesF 0 [b0, b1, b2, b3, b4, b5]) (n.val : Int) = some (placesF 0 ([b0, b1, b2, b3, b4, b5].set n.val true)) := by decide +kernel
theorem has6 (s : List Bool) (hs : s.length = 6) (x : Int) (h0 : 0 ≤ x) (h6 : x < 6) (k : Nat) (hk : 10 ≤ k) : spec_l1Has.f k (placesF 0 s) x = some (s.getD x.toNat false) := by
  obtain ⟨b0, b1, b2, b3, b4, b5, rfl⟩ := six s hs
  have h := has_all b0 b1 b2 b3 b4 b5 ⟨x.toNat, by omega⟩
  rw [show ((⟨x.toNat, by omega⟩ : Fin 6).val : Int) = x by show (x.toNat : Int) = x; omega] at h
  exact at_rounds (g := fun k => spec_l1Has.f k (placesF 0 [b0, b1, b2, b3, b4, b5]) x) (fun k => spec_l1Has.mono _ _ k) hk h
theorem put6 (s : List Bool) (hs : s.length = 6) (x : Int) (h0 : 0 ≤ x) (h6 : x < 6) (k : Nat) (hk : 10 ≤ k) : spec_l1Put.f k (placesF 0 s) x = some (placesF 0 (s.set x.toNat true)) := by
  obtain ⟨b0, b1, b2, b3, b4, b5, rfl⟩ := six s hs
  have h := put_all b0 b1 b2 b3 b4 b5 ⟨x.toNat, by omega⟩
  rw [show ((⟨x.toNat, by omega⟩ : Fin 6).val : Int) = x by show (x.toNat : Int) = x; omega] at h
  exact at_rounds (g := fun k => spec_l1Put.f k (placesF 0 [b0, b1, b2, b3, b4, b5]) x) (fun k => spec_l1Put.mono _ _ k) hk h
theorem stepC_cnt (mk : S47 → List Bool → Bool) (x : S47) (hx : 0 ≤ x.f0 ∧ x.f0 < 6) (q : List Bool × Bool) (h : q.1.length = 6) :
    cntF (stepC mk x q).1 ≤ cntF q.1 ∧ ((stepC mk x q).2 = true → q.2 = true ∨ cntF (stepC mk x q).1 < cntF q.1) := by
  unfold stepC
  split
  · rename_i hc
    simp only [Bool.and_eq_true, Bool.not_eq_true'] at hc
    have := cntF_set q.1 x.f0.toNat (by omega) hc.1
    exact ⟨by dsimp only; omega, fun _ => .inr (by dsimp only; omega)⟩
  · exact ⟨Nat.le_refl _, fun h => .inl h⟩
theorem passC_cnt (mk : S47 → List Bool → Bool) (l : List S47) (hl : ∀ x, x ∈ l → 0 ≤ x.f0 ∧ x.f0 < 6) : ∀ q : List Bool × Bool, q.1.length = 6 →
    (passC mk l q).1.length = 6 ∧ cntF (passC mk l q).1 ≤ cntF q.1 ∧ ((passC mk l q).2 = true → q.2 = true ∨ cntF (passC mk l q).1 < cntF q.1) := by
  induction l with
  | nil => intro q h; exact ⟨h, Nat.le_refl _, fun h => .inl h⟩
  | cons x l ih =>
    intro q h
    obtain ⟨h1, h2, h3⟩ := ih (fun y hy => hl y (List.mem_cons_of_mem _ hy)) (stepC mk x q) (stepC_len mk x q h)
    obtain ⟨h4, h5⟩ := stepC_cnt mk x (hl x List.mem_cons_self) q h
    refine ⟨h1, Nat.le_trans h2 h4, fun h6 => ?_⟩
    rcases h3 h6 with h7 | h7
    · rcases h5 h7 with h8 | h8
      · exact .inl h8
      · exact .inr (Nat.lt_of_le_of_lt h2 h8)
    · exact .inr (Nat.lt_of_lt_of_le h7 h4)
theorem rd_mem {l : List S47} {x : S47} (h : x ∈ l) : ∃ j : Nat, j < l.length ∧ rd_T47 l j = x := by
  obtain ⟨j, hj, rfl⟩ := List.getElem_of_mem h
  refine ⟨j, hj, ?_⟩
  unfold rd_T47
  rw [List.getD_eq_getElem?_getD, Int.toNat_natCast, List.getElem?_eq_getElem hj]; rfl
def okL (l : List S47) : Prop := l.length ≤ 16 ∧ ∀ j : Nat, j < l.length → okR6 (rd_T47 l j) ∧ (rd_T47 l j).f1.length ≤ 4
theorem goodG_okL {nons toks : Int} {l : List S47} (h : goodG nons toks l = true) : okL l := by
  have hn := goodG_nons h
  exact ⟨hn.2.2, fun j hj => ⟨goodG_okR6 h j hj, (okR_parts hn.1.1 hn.1.2 (goodG_ok h j hj)).2.1⟩⟩
theorem okL_f0 {l : List S47} (h : okL l) : ∀ x, x ∈ l → 0 ≤ x.f0 ∧ x.f0 < 6 := fun x hx => by
  obtain ⟨j, hj, rfl⟩ := rd_mem hx
  exact (h.2 j hj).1.1
def allT (tok : Bool) (s : List Bool) (l : List Int) : Bool := l.all fun x => if x < 0 then tok else s.getD x.toNat false
def mkT (tok : Bool) (r : S47) (s : List Bool) : Bool := allT tok s r.f1
theorem mkT_pro : mkT true = mkPro := by
  funext r s
  unfold mkT mkPro allT
  induction r.f1 with
  | nil => rfl
  | cons x l ih =>
    rw [List.all_cons, ih, List.any_cons, Bool.not_or]
    congr 1
    unfold proP
    by_cases h : x < 0
    · rw [if_pos h, decide_eq_false (by omega)]; rfl
    · rw [if_neg h, decide_eq_true (by omega)]; simp
theorem close_l2 (tok : Bool) (a0 a1 : Int) (l : List S47) (s : List Bool) (hs : s.length = 6) (ag : Bool) (i : Int) (y : S47) (hy : okR6 y) (hyl : y.f1.length ≤ 4) (X : List Int) (d : Nat) : ∀ (j : Nat) (x9 : Bool), j ≤ y.f1.length → y.f1.length - j = d →
    ((x9 && allT tok s (y.f1.drop j)) = true → Ev (fun k => spec_l3Close.l1 k tok (placesF 0 (s.set y.f0.toNat true)) true l l.length (wrap64 (i + 1)) a0 a1 l) X) →
    ((x9 && allT tok s (y.f1.drop j)) = false → Ev (fun k => spec_l3Close.l1 k tok (placesF 0 s) ag l l.length (wrap64 (i + 1)) a0 a1 l) X) →
    Ev (fun k => spec_l3Close.l2 k tok (placesF 0 s) ag x9 l l.length i y.f1 y.f1.length j a0 a1 l y.f0 y.f1) X := by
  induction d with
  | zero =>
    intro j x9 h1 hd hT hF
    rw [List.drop_of_length_le (by omega)] at hT hF
    cases x9 with
    | true =>
      obtain ⟨K, h⟩ := hT rfl
      dsimp only at h
      refine ⟨K + 11, fun k hk => ?_⟩
      dsimp only
      obtain ⟨k, rfl⟩ : ∃ m, k = m + 1 := ⟨k - 1, by omega⟩
      simp only [spec_l3Close.l2]
      rw [if_neg (by omega), if_pos trivial, put6 s hs y.f0 hy.1.1 hy.1.2 k (by omega)]
      exact h k (by omega)
    | false =>
      obtain ⟨K, h⟩ := hF rfl
      dsimp only at h
      refine ⟨K + 1, fun k hk => ?_⟩
      dsimp only
      obtain ⟨k, rfl⟩ : ∃ m, k = m + 1 := ⟨k - 1, by omega⟩
      simp only [spec_l3Close.l2]
      rw [if_neg (by omega), if_neg (by decide)]
      exact h k (by omega)
  | succ d ih =>
    intro j x9 h1 hd hT hF
    have hj : j < y.f1.length := by omega
    have hx6 := hy.2 j hj
    have hdj : y.f1.drop j = rd y.f1 j :: y.f1.drop (j + 1) := getD_drop y.f1 j 0 hj
    have ew : wrap64 ((j : Int) + 1) = ((j + 1 : Nat) : Int) := by unfold wrap64; omega
    have eall : allT tok s (y.f1.drop j) = ((if rd y.f1 j < 0 then tok else s.getD (rd y.f1 j).toNat false) && allT tok s (y.f1.drop (j + 1))) := by rw [hdj]; rfl
    rw [eall, ← Bool.and_assoc] at hT hF
    obtain ⟨K, h⟩ := ih (j + 1) (x9 && (if rd y.f1 j < 0 then tok else s.getD (rd y.f1 j).toNat false)) (by omega) (by omega) hT hF
    dsimp only at h
    refine ⟨K + 11, fun k hk => ?_⟩
    dsimp only
    obtain ⟨k, rfl⟩ : ∃ m, k = m + 1 := ⟨k - 1, by omega⟩
    have hk2 := h k (by omega)
    simp only [spec_l3Close.l2]
    rw [if_pos (by omega), if_pos (by omega), if_pos (by omega), ew]
    cases x9 with
    | false => rw [if_neg (by decide)]; simpa using hk2
    | true =>
      rw [if_pos rfl]
      by_cases hn : rd y.f1 j < 0
      · rw [if_pos hn] at hk2 ⊢
        cases tok with
        | true => rw [if_pos rfl]; simpa using hk2
        | false => rw [if_neg (by decide), if_neg (by omega)]; simpa using hk2
      · rw [if_neg hn] at hk2 ⊢
        rw [if_pos (by omega), has6 s hs (rd y.f1 j) (by omega) hx6 k (by omega)]
        simpa using hk2
theorem close_l1 (tok : Bool) (a0 a1 : Int) (l : List S47) (hl : okL l) (X : List Int) (d : Nat) : ∀ (i : Nat) (s : List Bool) (ag : Bool), s.length = 6 → i ≤ l.length → l.length - i = d →
    Ev (fun k => spec_l3Close.l0 k tok (placesF 0 (passC (mkT tok) (l.drop i) (s, ag)).1) (passC (mkT tok) (l.drop i) (s, ag)).2 a0 a1 l) X →
    Ev (fun k => spec_l3Close.l1 k tok (placesF 0 s) ag l l.length i a0 a1 l) X := by
  have hb := hl.1
  induction d with
  | zero =>
    intro i s ag hs h1 hd h0
    rw [List.drop_of_length_le (by omega)] at h0
    obtain ⟨K, h⟩ := h0
    dsimp only at h
    refine ⟨K + 1, fun k hk => ?_⟩
    dsimp only
    obtain ⟨k, rfl⟩ : ∃ m, k = m + 1 := ⟨k - 1, by omega⟩
    simp only [spec_l3Close.l1]
    rw [if_neg (by omega)]
    exact h k (by omega)
  | succ d ih =>
    intro i s ag hs h1 hd h0
    have hi : i < l.length := by omega
    obtain ⟨hy, hyl⟩ := hl.2 i hi
    have hdi : l.drop i = rd_T47 l i :: l.drop (i + 1) := getD_drop l i z47 hi
    rw [hdi] at h0
    have ew : wrap64 ((i : Int) + 1) = ((i + 1 : Nat) : Int) := by unfold wrap64; omega
    have hstep : ∀ q, passC (mkT tok) (rd_T47 l i :: l.drop (i + 1)) q = passC (mkT tok) (l.drop (i + 1)) (stepC (mkT tok) (rd_T47 l i) q) := fun _ => rfl
    rw [hstep] at h0
    obtain ⟨K, h⟩ := close_l2 tok a0 a1 l s hs ag i (rd_T47 l i) hy hyl X (rd_T47 l i).f1.length 0 (!s.getD (rd_T47 l i).f0.toNat false) (by omega) (by omega)
      (fun hc => by
        rw [List.drop_zero] at hc
        have e : stepC (mkT tok) (rd_T47 l i) (s, ag) = (s.set (rd_T47 l i).f0.toNat true, true) := by unfold stepC; exact if_pos hc
        rw [e] at h0
        rw [ew]
        exact ih (i + 1) _ _ (by rw [List.length_set]; exact hs) (by omega) (by omega) h0)
      (fun hc => by
        rw [List.drop_zero] at hc
        have e : stepC (mkT tok) (rd_T47 l i) (s, ag) = (s, ag) := by
          unfold stepC
          exact if_neg (by rw [Bool.eq_false_iff] at hc; exact hc)
        rw [e] at h0
        rw [ew]
        exact ih (i + 1) _ _ hs (by omega) (by omega) h0)
    dsimp only at h
    refine ⟨K + 11, fun k hk => ?_⟩
    dsimp only
    obtain ⟨k, rfl⟩ : ∃ m, k = m + 1 := ⟨k - 1, by omega⟩
    simp only [spec_l3Close.l1]
    rw [if_pos (by omega), if_pos (by omega), if_pos (by omega), has6 s hs _ hy.1.1 hy.1.2 k (by omega)]
    simp only [Option.bind_some]
    exact h k (by omega)
theorem close_l0 (tok : Bool) (a0 a1 : Int) (l : List S47) (hl : okL l) (n : Nat) : ∀ s : List Bool, s.length = 6 → cntF s < n →
    Ev (fun k => spec_l3Close.l0 k tok (placesF 0 s) true a0 a1 l) (placesF 0 (closeN (mkT tok) l n s)) := by
  induction n with
  | zero => intro s _ h; omega
  | succ n ih =>
    intro s hs hc
    obtain ⟨h1, h2, h3⟩ := passC_cnt (mkT tok) l (okL_f0 hl) (s, false) hs
    have key : Ev (fun k => spec_l3Close.l0 k tok (placesF 0 (passC (mkT tok) l (s, false)).1) (passC (mkT tok) l (s, false)).2 a0 a1 l) (placesF 0 (closeN (mkT tok) l (n + 1) s)) := by
      have e : closeN (mkT tok) l (n + 1) s = if (passC (mkT tok) l (s, false)).2 = true then closeN (mkT tok) l n (passC (mkT tok) l (s, false)).1 else (passC (mkT tok) l (s, false)).1 := rfl
      rw [e]
      cases hq : (passC (mkT tok) l (s, false)).2 with
      | true =>
        rw [if_pos rfl]
        refine ih _ h1 ?_
        rcases h3 hq with h4 | h4
        · cases h4
        · have h5 : cntF (passC (mkT tok) l (s, false)).1 < cntF s := h4
          omega
      | false =>
        rw [if_neg (by decide)]
        refine ⟨1, fun k hk => ?_⟩
        dsimp only
        obtain ⟨k, rfl⟩ : ∃ m, k = m + 1 := ⟨k - 1, by omega⟩
        simp only [spec_l3Close.l0]
        rw [if_neg (by decide)]
    obtain ⟨K, h⟩ := close_l1 tok a0 a1 l hl _ l.length 0 s false hs (by omega) (by omega) (by rw [List.drop_zero]; exact key)
    dsimp only at h
    refine ⟨K + 1, fun k hk => ?_⟩
    dsimp only
    obtain ⟨k, rfl⟩ : ∃ m, k = m + 1 := ⟨k - 1, by omega⟩
    simp only [spec_l3Close.l0]
    rw [if_pos trivial]
    exact h k (by omega)
theorem l3Close_ev (tok : Bool) (a0 a1 : Int) (l : List S47) (hl : okL l) : Ev (fun k => spec_l3Close.f k a0 a1 l tok) (placesF 0 (closedF (mkT tok) l)) :=
  close_l0 tok a0 a1 l hl 7 [false, false, false, false, false, false] rfl (by decide)
theorem passC_len (mk : S47 → List Bool → Bool) (l : List S47) (q : List Bool × Bool) (h : q.1.length = 6) : (passC mk l q).1.length = 6 := by
  induction l generalizing q with
  | nil => exact h
  | cons x l ih => exact ih _ (stepC_len mk x q h)
theorem closeN_len (mk : S47 → List Bool → Bool) (l : List S47) (n : Nat) : ∀ s : List Bool, s.length = 6 → (closeN mk l n s).length = 6 := by
  induction n with
  | zero => intro s h; exact h
  | succ n ih =>
    intro s h
    unfold closeN
    split
    · exact ih _ (passC_len mk l (s, false) h)
    · exact passC_len mk l (s, false) h
theorem closedF_len (mk : S47 → List Bool → Bool) (l : List S47) : (closedF mk l).length = 6 := closeN_len mk l 7 _ rfl
end Go.Proofs.Ytohbdjdjjbieeaa.P
