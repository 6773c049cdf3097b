/- A part of the proofs of some laws of this seat (words of the print and texts of this session, without what these laws do not use). -/
import Derived.Test.YtkocahlifffgjaaGreatTFnExactCellForp2
import Derived.Test.YtkocahlifffgjaaGreatTFnExactCellForp3
import Derived.Test.YtkocahlifffgjaaGreatTFnExactCellForp1
import Derived.Maps.OwnOps
namespace Go.Proofs.YtkocahlifffgjaaGreat.P
open Go.RowKit Go.Proofs.YtkocahlifffgjaaGreatW.PrintWords
set_option linter.unusedVariables false
set_option linter.unusedSimpArgs false
theorem l1SameR_loop (a b : List Int) (hl : a.length = b.length) (hb : a.length ≤ 9223372036854775807) (d : Nat) : ∀ (k i : Nat), i ≤ a.length → a.length - i = d → d < k →
 spec_l1Same.l0 k a b a.length i = some (decide (a.drop i = b.drop i)) := by
 induction d with
 | zero =>
  intro k i h1 hd hk; obtain ⟨k, rfl⟩ : ∃ m, k = m + 1 := ⟨k - 1, zz1g⟩
  simp only [spec_l1Same.l0]; rw [if_neg zz1g]; rw [List.drop_of_length_le zz1g, List.drop_of_length_le zz1g]; simp
 | succ d ih =>
  intro k i h1 hd hk; obtain ⟨k, rfl⟩ : ∃ m, k = m + 1 := ⟨k - 1, zz1g⟩
  simp only [spec_l1Same.l0]; rw [if_pos zz1g, if_pos zz1g, if_pos zz1g, if_pos zz1g]; have hw : wrap64 ((i : Int) + 1) = ((i + 1 : Nat) : Int) := by unfold wrap64; omega
  have ea : a.drop i = rd a i :: a.drop (i + 1) := getD_drop a i 0 zz1g; have eb : b.drop i = rd b i :: b.drop (i + 1) := getD_drop b i 0 zz1g; by_cases he : rd a i = rd b i
  · rw [if_pos he, hw, ih k (i + 1) zz1g zz1g zz1g, ea, eb, he]; congr 1; simp
  · rw [if_neg he, ea, eb]; simp [he]
theorem l1SameR_eq (a b : List Int) (hb : a.length ≤ 9223372036854775807) : ∀ k, a.length < k → spec_l1Same.f k a b = some (decide (a = b)) := by
 intro k hk; unfold spec_l1Same.f; by_cases hl : a.length = b.length
 · rw [if_pos zz1g]; have := l1SameR_loop a b hl hb a.length k 0 zz1g zz1g hk; simpa using this
 · rw [if_neg zz1g]; have : a ≠ b := fun h => hl (by rw [h])
   simp [this]
theorem decide_cmp (x y : Int) (us vs : List Int) : decide (cmpL (x :: us) (y :: vs) < 0) = (if x = y then decide (cmpL us vs < 0) else decide (x < y)) := by
 by_cases c : x = y
 · rw [if_pos c]; exact decide_eq_decide.2 (by simp only [cmpL]; rw [if_neg zz1g, if_neg zz1g])
 · rw [if_neg c]; refine decide_eq_decide.2 ?_; simp only [cmpL]; by_cases c2 : x < y
   · rw [if_pos c2]; simp [c2]
   · rw [if_neg c2, if_pos zz1g]; simp [c2]
theorem less_loop (a b : List Int) (hl : a.length = b.length) (hb : a.length ≤ 9223372036854775807) (d : Nat) : ∀ (k i : Nat), i ≤ a.length → a.length - i = d → d < k →
 spec_l5Less.l0 k a b a.length i = some (decide (cmpL (a.drop i) (b.drop i) < 0)) := by
 induction d with
 | zero =>
  intro k i h1 hd hk; obtain ⟨k, rfl⟩ : ∃ m, k = m + 1 := ⟨k - 1, zz1g⟩
  simp only [spec_l5Less.l0]; rw [if_neg zz1g, List.drop_of_length_le zz1g, List.drop_of_length_le zz1g]; rfl
 | succ d ih =>
  intro k i h1 hd hk; obtain ⟨k, rfl⟩ : ∃ m, k = m + 1 := ⟨k - 1, zz1g⟩
  have ea : a.drop i = rd a i :: a.drop (i + 1) := getD_drop a i 0 zz1g; have eb : b.drop i = rd b i :: b.drop (i + 1) := getD_drop b i 0 zz1g; simp only [spec_l5Less.l0]; rw [if_pos zz1g, if_pos zz1g, if_pos zz1g, if_pos zz1g, ea, eb, decide_cmp]; by_cases c : rd a i = rd b i
  · rw [if_pos c, if_pos c, wsuccL (show i < a.length by omega) hb, ih k (i + 1) zz1g zz1g zz1g]
  · rw [if_neg c, if_neg c]
theorem less_eq (a b : List Int) (hl : a.length = b.length) (hb : a.length ≤ 9223372036854775807) (k : Nat) (hk : a.length < k) : spec_l5Less.f k a b = some (decide (cmpL a b < 0)) := by
 unfold spec_l5Less.f; have := less_loop a b hl hb a.length k 0 zz1g zz1g hk; rwa [show ((0 : Nat) : Int) = 0 from rfl, List.drop_zero, List.drop_zero] at this
theorem putL_old {l : List (List Int)} {x : List Int} (hu : UpL l) (hx : x ∈ l) : putL l x = l := upL_ext (upL_put l x hu) hu fun y => (mem_putL l x y).trans ⟨fun h => h.elim (fun e => by rw [e]; exact hx) id, .inr⟩
theorem putL_mid {l : List (List Int)} {x : List Int} (hu : UpL l) (i : Nat) (h1 : ∀ a, a ∈ l.take i → cmpL a x < 0) (h2 : ∀ b, b ∈ l.drop i → cmpL x b < 0) : putL l x = l.take i ++ [x] ++ l.drop i := by
 refine upL_ext (upL_put l x hu) ?_ fun y => ?_
 · unfold UpL at hu ⊢; rw [← List.take_append_drop i l, List.pairwise_append] at hu; rw [List.append_assoc, List.pairwise_append]; refine ⟨hu.1, List.pairwise_cons.2 ⟨h2, hu.2.1⟩, fun a ha b hb => ?_⟩; rcases List.mem_cons.1 hb with e | e
   · rw [e]; exact h1 a ha
   · exact hu.2.2 a ha b e
 · rw [mem_putL, List.append_assoc, List.mem_append, List.singleton_append, List.mem_cons]; have : y ∈ l ↔ y ∈ l.take i ∨ y ∈ l.drop i := by rw [← List.mem_append, List.take_append_drop]
   rw [this]; exact ⟨fun h => h.elim (fun e => .inr (.inl e)) (fun h => h.elim .inl (fun h => .inr (.inr h))), fun h => h.elim (fun h => .inr (.inl h)) (fun h => h.elim .inl (fun h => .inr (.inr h)))⟩
theorem insert_loop (l : List (List Int)) (x : List Int) (m : Nat) (hm : m ≤ 1048576) (hx : x.length = m) (hlm : ∀ y, y ∈ l → y.length = m) (hu : UpL l) (hl : l.length + 1 < 5864062014805) (i : Nat) : ∀ (k : Nat), i ≤ l.length → (∀ b, b ∈ l.drop i → cmpL x b < 0) → i + m + 1 < k →
 spec_l5Insert.l0 k l x i = some (putL l x) := by
 have fin : ∀ i : Nat, i ≤ l.length → ((l.take i) ++ [x] ++ l.drop i).length = l.length + 1 := fun i hi => by simp only [List.length_append, List.length_take, List.length_drop, List.length_cons, List.length_nil]; omega
 induction i with
 | zero =>
  intro k h1 hb hk; obtain ⟨k, rfl⟩ : ∃ m, k = m + 1 := ⟨k - 1, zz1g⟩
  have e := putL_mid hu 0 (fun a ha => by rw [List.take_zero] at ha; cases ha) hb; simp only [spec_l5Insert.l0]; rw [if_neg zz1g]; simp only [Option.bind_some]; rw [if_pos zz1g, if_pos zz1g]; simp only [List.length_nil, List.nil_append, show ((0 : Nat) : Int).toNat = 0 from rfl, List.drop_zero, List.take_zero, List.length_cons]; rw [if_pos zz1g, if_pos zz1g, if_pos zz1g, if_pos zz1g, e]; simp
 | succ i ih =>
  intro k h1 hb hk; obtain ⟨k, rfl⟩ : ∃ m, k = m + 1 := ⟨k - 1, zz1g⟩
  have e1 : wrap64 (((i + 1 : Nat) : Int) - 1) = (i : Int) := by unfold wrap64; omega
  have hil : i < l.length := by omega
  have ed : l.drop i = rd_L1 l i :: l.drop (i + 1) := getD_drop l i [] hil; have hmem : rd_L1 l i ∈ l := by unfold rd_L1; rw [Int.toNat_natCast, List.getD_eq_getElem?_getD, List.getElem?_eq_getElem hil]; exact List.getElem_mem hil
  have hyl := hlm _ hmem; have hN := ih k zz1g; have hlt : ∀ a, a ∈ l.take i → cmpL a (rd_L1 l i) < 0 := by
   intro a ha; have := hu; unfold UpL at this; rw [← List.take_append_drop i l, List.pairwise_append, ed] at this; exact this.2.2 a ha _ List.mem_cons_self
  have et : l.take (i + 1) = l.take i ++ [rd_L1 l i] := take_getD l i [] hil; obtain ⟨y, hy⟩ : ∃ y, y = rd_L1 l i := ⟨_, rfl⟩
  rw [← hy] at ed hmem hyl hlt et; simp only [spec_l5Insert.l0]; rw [if_pos zz1g, e1, if_pos zz1g, if_pos zz1g, ← hy, less_eq x y zz1g zz1g k zz1g]; simp only [Option.bind_some]; by_cases c : cmpL x y < 0
  · rw [if_pos (decide_eq_true c)]; exact hN (fun b hb2 => by
     rw [ed] at hb2; rcases List.mem_cons.1 hb2 with e | e
     · rw [e]; exact c
     · exact hb b e) zz1g
  · rw [if_neg (by rw [decide_eq_false c]; decide), l1SameR_eq y x zz1g k zz1g]; simp only [Option.bind_some]; by_cases c2 : y = x
    · rw [if_pos (decide_eq_true c2), putL_old hu (c2 ▸ hmem)]
    · rw [if_neg (by rw [decide_eq_false c2]; decide), if_pos zz1g, if_pos zz1g]; have e := putL_mid hu (i + 1) (fun a ha => by
       rw [et] at ha; have hyx : cmpL y x < 0 := cmpL_flip c (fun e => c2 e.symm); rcases List.mem_append.1 ha with h | h
       · exact cmpL_trans _ _ _ (hlt a h) hyx
       · rw [List.mem_singleton.1 h]; exact hyx) hb
      have hl1 : (l.take (i + 1)).length = i + 1 := by rw [List.length_take]; omega
      have hl2 : (l.drop (i + 1)).length = l.length - (i + 1) := List.length_drop; simp only [List.length_nil, List.nil_append, Int.toNat_natCast, List.length_append, List.length_cons, hl1, hl2]; rw [if_pos zz1g, if_pos zz1g, if_pos zz1g, if_pos zz1g, e]
theorem insert_eq (l : List (List Int)) (x : List Int) (m : Nat) (hm : m ≤ 1048576) (hx : x.length = m) (hlm : ∀ y, y ∈ l → y.length = m) (hu : UpL l) (hl : l.length + 1 < 5864062014805) (k : Nat) (hk : l.length + m + 1 < k) : spec_l5Insert.f k l x = some (putL l x) := by
 unfold spec_l5Insert.f; exact insert_loop l x m hm hx hlm hu hl l.length k (Nat.le_refl _) (fun b hb => by rw [List.drop_of_length_le (Nat.le_refl _)] at hb; cases hb) hk
theorem putL_len (l : List (List Int)) (n : List Int) : (putL l n).length ≤ l.length + 1 := by
 induction l with
 | nil => simp [putL]
 | cons a l ih =>
  simp only [putL]
  split
  · simp; omega
  · split <;> simp
structure PutI (out raw : List (List Int)) : Prop where
 up : UpL out
 two : ∀ y, y ∈ out → y.length = 2
 mem : ∀ y, y ∈ out ↔ y ∈ raw
 len : out.length ≤ raw.length
theorem PutI.put {out raw : List (List Int)} (h : PutI out raw) {x : List Int} (hx : x.length = 2) : PutI (putL out x) (raw ++ [x]) :=
 ⟨upL_put _ _ h.up, fun y hy => by rcases (mem_putL _ _ _).1 hy with e | e; · rw [e]; exact hx
                                   · exact h.two y e, fun y => by rw [mem_putL, List.mem_append, List.mem_singleton, h.mem]; exact Or.comm, by rw [List.length_append]; have := putL_len out x; have := h.len; simp; omega⟩
theorem PutI.sort {out raw : List (List Int)} (h : PutI out raw) {raw2 : List (List Int)} (hr : ∀ y, y ∈ raw ↔ y ∈ raw2) : out = sortL raw2 := upL_of h.up fun y => (h.mem y).trans (hr y)
def unitsR (s : List Bool) (l : List Int) : List (List Int) := (if nulS s (rd l 2) = true then [[rd l 0, rd l 1]] else []) ++ (if nulS s (rd l 1) = true then [[rd l 0, rd l 2]] else [])
theorem mem_unitsR {s : List Bool} {l p : List Int} : p ∈ unitsR s l ↔ p ∈ unitsOf s l := by
 unfold unitsR unitsOf; rw [List.mem_append, List.mem_append]; exact Or.comm
theorem unitsR_len (s : List Bool) (l : List Int) : (unitsR s l).length ≤ 2 := by
 unfold unitsR; rw [List.length_append]; have h1 : (if nulS s (rd l 1) = true then [[rd l 0, rd l 2]] else []).length ≤ 1 := by split <;> simp
 have h2 : (if nulS s (rd l 2) = true then [[rd l 0, rd l 1]] else []).length ≤ 1 := by split <;> simp
 omega
theorem has_setB (s : List Bool) (hs : s.length ≤ 40) (x : Int) (h0 : 0 ≤ x) (hx : x < (s.length : Int)) (k : Nat) (hk : 41 ≤ k) : spec_l1Has.f k (setB s) x = some (nulS s x) := by
 have hl := setB_len s; rw [has_eq (setB s) x zz1g k zz1g]; congr 1; rw [Bool.eq_iff_iff, decide_eq_true_eq, mem_setB, nulS_pos h0]; exact ⟨fun h => h.2, fun h => ⟨⟨h0, hx⟩, h⟩⟩
section
variable {s : List Bool} (hs : s.length ≤ 40)
include hs
theorem sp_j3 (out raw ls : List (List Int)) (y : List Int) (i : Int) (X : List (List Int)) (hy : y.length = 3) (h1 : rd y 1 < (s.length : Int)) (hp : PutI out raw) (hl : raw.length ≤ 5864062014000)
 (h : ∀ out', PutI out' (raw ++ (if nulS s (rd y 1) = true then [[rd y 0, rd y 2]] else [])) → Ev (fun k => spec_l6Pairs.l1 k (setB s) out' ls ls.length (wrap64 (i + 1))) X) :
 Ev (fun k => spec_l6Pairs.j3 k (setB s) out y ls ls.length i) X := by
 have hol := hp.len; by_cases c : 0 ≤ rd y 1
 · cases hv : nulS s (rd y 1) with
   | true =>
    rw [hv, if_pos rfl] at h; obtain ⟨K, h⟩ := h (putL out [rd y 0, rd y 2]) (hp.put rfl); dsimp only at h; refine ⟨K + out.length + 50, fun k hk => ?_⟩; dsimp only; obtain ⟨k, rfl⟩ : ∃ m, k = m + 1 := ⟨k - 1, zz1g⟩
    simp only [spec_l6Pairs.j3]; rw [if_pos zz1g, if_pos zz1g, has_setB s hs _ c h1 k zz1g, hv]; simp only [Option.bind_some]; rw [if_pos trivial, if_pos zz1g, if_pos zz1g, insert_eq out _ 2 zz1g rfl hp.two hp.up zz1g k zz1g]; exact h k zz1g
   | false =>
    rw [hv, if_neg zz1f, List.append_nil] at h; obtain ⟨K, h⟩ := h out hp; dsimp only at h; refine ⟨K + 50, fun k hk => ?_⟩; dsimp only; obtain ⟨k, rfl⟩ : ∃ m, k = m + 1 := ⟨k - 1, zz1g⟩
    simp only [spec_l6Pairs.j3]; rw [if_pos zz1g, if_pos zz1g, has_setB s hs _ c h1 k zz1g, hv]; simp only [Option.bind_some]; rw [if_neg zz1f]; exact h k zz1g
 · rw [nulS_neg zz1g, if_neg zz1f, List.append_nil] at h; obtain ⟨K, h⟩ := h out hp; dsimp only at h; refine ⟨K + 1, fun k hk => ?_⟩; dsimp only; obtain ⟨k, rfl⟩ : ∃ m, k = m + 1 := ⟨k - 1, zz1g⟩
   simp only [spec_l6Pairs.j3]; rw [if_pos zz1g, if_neg zz1g]; exact h k zz1g
theorem sp_j2 (out raw ls : List (List Int)) (y : List Int) (i : Int) (X : List (List Int)) (hy : y.length = 3) (h1 : rd y 1 < (s.length : Int)) (b : Bool) (hp : PutI out raw) (hl : raw.length ≤ 5864062013000)
 (h : ∀ out', PutI out' (raw ++ ((if b = true then [[rd y 0, rd y 1]] else []) ++ (if nulS s (rd y 1) = true then [[rd y 0, rd y 2]] else []))) → Ev (fun k => spec_l6Pairs.l1 k (setB s) out' ls ls.length (wrap64 (i + 1))) X) :
 Ev (fun k => spec_l6Pairs.j2 k (setB s) out y ls ls.length i b) X := by
 have hol := hp.len; cases b with
 | true =>
  rw [if_pos rfl] at h; obtain ⟨K, h⟩ := sp_j3 hs (putL out [rd y 0, rd y 1]) (raw ++ [[rd y 0, rd y 1]]) ls y i X hy h1 (hp.put rfl) (by rw [List.length_append]; simp; omega) (by simpa using h); dsimp only at h; refine ⟨K + out.length + 50, fun k hk => ?_⟩; dsimp only; obtain ⟨k, rfl⟩ : ∃ m, k = m + 1 := ⟨k - 1, zz1g⟩
  simp only [spec_l6Pairs.j2]; rw [if_pos trivial, if_pos zz1g, if_pos zz1g, insert_eq out _ 2 zz1g rfl hp.two hp.up zz1g k zz1g]; exact h k zz1g
 | false =>
  rw [if_neg zz1f, List.nil_append] at h; obtain ⟨K, h⟩ := sp_j3 hs out raw ls y i X hy h1 hp zz1g h; dsimp only at h; refine ⟨K + 1, fun k hk => ?_⟩; dsimp only; obtain ⟨k, rfl⟩ : ∃ m, k = m + 1 := ⟨k - 1, zz1g⟩
  simp only [spec_l6Pairs.j2]; rw [if_neg zz1f]; exact h k zz1g
theorem sp_l1 (ls : List (List Int)) (hls : ls.length ≤ 1048576) (hok : ∀ l, l ∈ ls → l.length = 3 ∧ rd l 1 < (s.length : Int) ∧ rd l 2 < (s.length : Int)) (raw2 : List (List Int)) (d : Nat) : ∀ (i : Nat) (out raw : List (List Int)), i ≤ ls.length → ls.length - i = d → PutI out raw → raw.length ≤ 1048576 + 2 * i → (∀ p, p ∈ raw ++ (ls.drop i).flatMap (unitsR s) ↔ p ∈ raw2) →
 Ev (fun k => spec_l6Pairs.l1 k (setB s) out ls ls.length i) (sortL raw2) := by
 induction d with
 | zero =>
  intro i out raw h1 hd hp ho hm; refine ⟨1, fun k hk => ?_⟩; dsimp only; obtain ⟨k, rfl⟩ : ∃ m, k = m + 1 := ⟨k - 1, zz1g⟩
  simp only [spec_l6Pairs.l1]; rw [List.drop_of_length_le zz1g] at hm; rw [if_neg zz1g, hp.sort (fun y => by have := hm y; simpa using this)]
 | succ d ih =>
  intro i out raw h1 hd hp ho hm; have hil : i < ls.length := by omega
  have ed : ls.drop i = rd_L1 ls i :: ls.drop (i + 1) := getD_drop ls i [] hil; have hmem : rd_L1 ls i ∈ ls := by unfold rd_L1; rw [Int.toNat_natCast, List.getD_eq_getElem?_getD, List.getElem?_eq_getElem hil]; exact List.getElem_mem hil
  obtain ⟨y3, y1, y2⟩ := hok _ hmem; obtain ⟨y, hy⟩ : ∃ y, y = rd_L1 ls i := ⟨_, rfl⟩
  rw [← hy] at y3 y1 y2 ed; rw [ed, List.flatMap_cons] at hm; have ew : wrap64 ((i : Int) + 1) = ((i + 1 : Nat) : Int) := wsuccL hil zz1g; have hJ : Ev (fun k => spec_l6Pairs.j2 k (setB s) out y ls ls.length i (nulS s (rd y 2))) (sortL raw2) := sp_j2 hs out raw ls y i _ y3 y1 _ hp zz1g (fun out' hp' => by
   rw [ew]; refine ih (i + 1) out' (raw ++ unitsR s y) zz1g zz1g hp' (by rw [List.length_append]; have := unitsR_len s y; omega) (fun p => ?_); rw [List.append_assoc]; exact hm p)
  obtain ⟨K, hK⟩ := hJ; dsimp only at hK; refine ⟨K + 50, fun k hk => ?_⟩; dsimp only; obtain ⟨k, rfl⟩ : ∃ m, k = m + 1 := ⟨k - 1, zz1g⟩
  have hk2 := hK k zz1g; simp only [spec_l6Pairs.l1]; rw [if_pos zz1g, if_pos zz1g, if_pos zz1g, ← hy, if_pos zz1g]; by_cases c : rd y 2 < 0
  · rw [if_neg zz1g]; rw [nulS_neg c] at hk2; exact hk2
  · rw [if_pos zz1g, has_setB s hs _ zz1g y2 k zz1g]; exact hk2
end
theorem sp_l0 (s : List Bool) (hs : s.length ≤ 40) (ones pairs : List (List Int)) (a0 a1 : Int) (es : List Int) (fs : List (List Int)) (ho : ones.length ≤ 1048576) (hp : pairs.length ≤ 1048576) (hok1 : ∀ l, l ∈ ones → l.length = 2) (hok : ∀ l, l ∈ pairs → l.length = 3 ∧ rd l 1 < (s.length : Int) ∧ rd l 2 < (s.length : Int)) (d : Nat) : ∀ (i : Nat) (out : List (List Int)), i ≤ ones.length → ones.length - i = d → PutI out (ones.take i) →
 Ev (fun k => spec_l6Pairs.l0 k (setB s) out ones ones.length i a0 a1 pairs ones es fs) (sortL (rawU s ones pairs)) := by
 induction d with
 | zero =>
  intro i out h1 hd hP; rw [List.take_of_length_le zz1g] at hP; obtain ⟨K, h⟩ := sp_l1 hs pairs hp hok (rawU s ones pairs) pairs.length 0 out ones zz1g zz1g hP zz1g (fun p => by
   unfold rawU; rw [List.drop_zero, List.mem_append, List.mem_append, List.mem_flatMap, List.mem_flatMap]; exact or_congr Iff.rfl ⟨fun ⟨l, a, b⟩ => ⟨l, a, mem_unitsR.1 b⟩, fun ⟨l, a, b⟩ => ⟨l, a, mem_unitsR.2 b⟩⟩)
  dsimp only at h; refine ⟨K + 1, fun k hk => ?_⟩; dsimp only; obtain ⟨k, rfl⟩ : ∃ m, k = m + 1 := ⟨k - 1, zz1g⟩
  simp only [spec_l6Pairs.l0]; rw [if_neg zz1g]; exact h k zz1g
 | succ d ih =>
  intro i out h1 hd hP; have hil : i < ones.length := by omega
  have et : ones.take (i + 1) = ones.take i ++ [rd_L1 ones i] := take_getD ones i [] hil; have hmem : rd_L1 ones i ∈ ones := by unfold rd_L1; rw [Int.toNat_natCast, List.getD_eq_getElem?_getD, List.getElem?_eq_getElem hil]; exact List.getElem_mem hil
  have y2 := hok1 _ hmem; have hol := hP.len; rw [List.length_take] at hol; obtain ⟨K, h⟩ := ih (i + 1) (putL out (rd_L1 ones i)) zz1g zz1g (by rw [et]; exact hP.put y2); dsimp only at h; refine ⟨K + out.length + 10, fun k hk => ?_⟩; dsimp only; obtain ⟨k, rfl⟩ : ∃ m, k = m + 1 := ⟨k - 1, zz1g⟩
  simp only [spec_l6Pairs.l0]; rw [if_pos zz1g, if_pos zz1g, if_pos zz1g, own_eq _ zz1g]; simp only [Option.bind_some]; rw [insert_eq out _ 2 zz1g y2 hP.two hP.up zz1g k zz1g]; simp only [Option.bind_some]; rw [wsuccL hil zz1g]; exact h k zz1g
theorem l6Pairs_ev {n : Nat} {toks : Int} {ps os : List (List Int)} {es : List Int} {fs : List (List Int)} (ok : OkB (n : Int) toks ps os es) (hp : ps.length ≤ 1048576) (ho : os.length ≤ 1048576) : Ev (fun k => spec_l6Pairs.f k (n : Int) toks ps os es fs) (pairsU n es os ps) := by
 have hl := nulV_len (okB_rows ok) ok.e; have h40 := ok.n; obtain ⟨K, h⟩ := l5Null_ev (fs := fs) ok zz1g zz1g; obtain ⟨K2, h2⟩ := sp_l0 (nulV n es (ps ++ os)) zz1g os ps (n : Int) toks es fs ho hp (fun l hm => (ok.o l hm).1) (fun l hm => by
  obtain ⟨e1, e2⟩ := ok.p l hm; rw [hl]; exact ⟨e1, (e2.2 1 zz1g zz1g).2, (e2.2 2 zz1g zz1g).2⟩) os.length 0 [] zz1g zz1g ⟨List.Pairwise.nil, (fun y hy => by cases hy), (fun y => by simp), zz1h⟩
 dsimp only at h h2; refine ⟨K + K2, fun k hk => ?_⟩; dsimp only; unfold spec_l6Pairs.f; rw [h k zz1g]; exact h2 k zz1g
def esOf (ps : List (List Int)) (x : Int) : List Int := (if 0 ≤ x then [x] else []) ++ ((ps.filter fun p => decide (rd p 1 = x)).map fun p => rd p 0)
def rowU (n : Nat) (ps : List (List Int)) (x : Int) : List Int := setB (nulV n (esOf ps x) ps)
def PairsIn (n : Nat) (ps : List (List Int)) : Prop := ∀ p, p ∈ ps → p.length = 2 ∧ (0 ≤ rd p 0 ∧ rd p 0 < n) ∧ rd p 1 < n
theorem pairsIn_rows {n : Nat} {ps : List (List Int)} (h : PairsIn n ps) : rowsIn n ps := fun l hl => by
 obtain ⟨e1, e2, e3⟩ := h l hl; exact ⟨e2, fun j a b => by rw [show j = 1 by omega]; exact e3⟩
theorem mem_esOf {ps : List (List Int)} {x z : Int} : z ∈ esOf ps x ↔ (0 ≤ x ∧ z = x) ∨ ∃ p, p ∈ ps ∧ rd p 1 = x ∧ z = rd p 0 := by
 unfold esOf; rw [List.mem_append, List.mem_map]; constructor
 · rintro (h | ⟨p, hp, rfl⟩)
   · by_cases c : 0 ≤ x
     · rw [if_pos c, List.mem_singleton] at h; exact .inl ⟨c, h⟩
     · rw [if_neg c] at h; cases h
   · rw [List.mem_filter] at hp; exact .inr ⟨p, hp.1, of_decide_eq_true hp.2, rfl⟩
 · rintro (⟨c, rfl⟩ | ⟨p, hp, e, rfl⟩)
   · left; rw [if_pos c]; exact List.mem_singleton.2 rfl
   · right; exact ⟨p, List.mem_filter.2 ⟨hp, decide_eq_true e⟩, rfl⟩
theorem esOf_in {n : Nat} {ps : List (List Int)} (h : PairsIn n ps) {x : Int} (hx : x < n) : ∀ z, z ∈ esOf ps x → 0 ≤ z ∧ z < n := fun z hz => by
 rcases mem_esOf.1 hz with ⟨c, rfl⟩ | ⟨p, hp, _, rfl⟩
 · exact ⟨c, hx⟩
 · exact (h p hp).2.1
theorem mem_rowU {n : Nat} {ps : List (List Int)} (h : PairsIn n ps) {x : Int} (hx : x < n) (z : Int) : z ∈ rowU n ps x ↔ 0 ≤ z ∧ UpR ps (· = x) z := by
 have hr := pairsIn_rows h; have he := esOf_in h hx; have key : ∀ z : Int, 0 ≤ z → z < n → ((nulV n (esOf ps x) ps).getD z.toNat false = true ↔ NulR (esOf ps x) ps z) := fun z h0 h1 => by
  have := nulV_at hr he (i := z.toNat) zz1g; rwa [show ((z.toNat : Nat) : Int) = z by omega] at this
 have n2u : ∀ z, NulR (esOf ps x) ps z → UpR ps (· = x) z := fun z hz => hz.least (T := UpR ps (· = x)) (fun z hz => by
  rcases mem_esOf.1 hz with ⟨_, rfl⟩ | ⟨p, hp, e, rfl⟩
  · exact .base rfl
  · exact .step hp (.base e)) (fun l hl hj => .step hl (hj 1 zz1g (by have := (h l hl).1; omega)).2)
 have u2n : ∀ z, UpR ps (· = x) z → z = x ∨ ((0 ≤ z ∧ z < n) ∧ NulR (esOf ps x) ps z) := fun z hz => hz.least (T := fun z => z = x ∨ ((0 ≤ z ∧ z < n) ∧ NulR (esOf ps x) ps z)) (fun z hz => .inl hz) (fun p hp hq => .inr ⟨(h p hp).2.1, by
  rcases hq with e | ⟨h0, hN⟩
  · exact .base (mem_esOf.2 (.inr ⟨p, hp, e, rfl⟩))
  · have hl := (h p hp).1; exact .step hp (fun j a b => by rw [show j = 1 by omega]; exact h0.1) (fun j a b => by rw [show j = 1 by omega]; exact hN)⟩)
 unfold rowU; rw [mem_setB, nulV_len hr he]; constructor
 · rintro ⟨⟨h0, h1⟩, h2⟩; exact ⟨h0, n2u z ((key z h0 h1).1 h2)⟩
 · rintro ⟨h0, hz⟩; rcases u2n z hz with e | ⟨h1, hN⟩
   · subst e; exact ⟨⟨h0, hx⟩, (key z h0 hx).2 (.base (mem_esOf.2 (.inl ⟨h0, rfl⟩)))⟩
   · exact ⟨⟨h0, h1.2⟩, (key z h0 h1.2).2 hN⟩
theorem rowU_up (n : Nat) (ps : List (List Int)) (x : Int) : UpI (rowU n ps x) := setB_up _
theorem rowU_len {n : Nat} {ps : List (List Int)} (h : PairsIn n ps) {x : Int} (hx : x < n) : (rowU n ps x).length ≤ n := by
 have := setB_len (nulV n (esOf ps x) ps); rw [nulV_len (pairsIn_rows h) (esOf_in h hx)] at this; exact this
theorem len_filter_ne (a : Int) : ∀ l : List Int, l.Nodup → l.length ≤ (l.filter fun x => decide (x ≠ a)).length + 1
 | [], _ => by simp
 | b :: l, h => by
  obtain ⟨h1, h2⟩ := List.nodup_cons.1 h; by_cases c : b = a
  · subst c; have e : l.filter (fun x => decide (x ≠ b)) = l := List.filter_eq_self.2 fun x hx => decide_eq_true fun e => h1 (e ▸ hx)
    rw [List.filter_cons_of_neg zz1h, e]; simp
  · have := len_filter_ne a l h2; rw [List.filter_cons_of_pos (by simpa using c)]; simp only [List.length_cons]; omega
theorem nodup_len : ∀ (n : Nat) (l : List Int), l.Nodup → (∀ x, x ∈ l → 0 ≤ x ∧ x < n) → l.length ≤ n
 | 0, l, _, h => by
  cases l with
  | nil => simp
  | cons a l => have := h a List.mem_cons_self; omega
 | n + 1, l, hd, h => by
  have h1 := len_filter_ne (n : Int) l hd; have h2 := nodup_len n (l.filter fun x => decide (x ≠ (n : Int))) (hd.filter _) (fun x hx => by
   rw [List.mem_filter, decide_eq_true_eq] at hx; have := h x hx.1; omega)
  omega
structure BfsI (ps : List (List Int)) (n : Nat) (x : Int) (S : List Int) (i : Nat) : Prop where
 nd : S.Nodup
 st : x ∈ S
 up : ∀ z, z ∈ S → UpR ps (· = x) z
 le : i ≤ S.length
 cl : ∀ j : Nat, j < i → ∀ p, p ∈ ps → rd p 1 = rd S j → rd p 0 ∈ S
theorem upR_lt {n : Nat} {ps : List (List Int)} (h : PairsIn n ps) {x z : Int} (hz : UpR ps (· = x) z) : z = x ∨ (0 ≤ z ∧ z < n) := hz.least (T := fun z => z = x ∨ (0 ≤ z ∧ z < n)) (fun _ e => .inl e) (fun p hp _ => .inr (h p hp).2.1)
theorem BfsI.len {ps : List (List Int)} {n : Nat} {x : Int} {S : List Int} {i : Nat} (h : BfsI ps n x S i) (hp : PairsIn n ps) : S.length ≤ n + 1 := by
 have h1 := len_filter_ne x S h.nd; have h2 := nodup_len n (S.filter fun z => decide (z ≠ x)) (h.nd.filter _) (fun z hz => by
  rw [List.mem_filter, decide_eq_true_eq] at hz; exact (upR_lt hp (h.up z hz.1)).resolve_left hz.2)
 omega
structure BfsJ (ps : List (List Int)) (n : Nat) (x y : Int) (S : List Int) (i kk : Nat) : Prop where
 nd : S.Nodup
 st : x ∈ S
 up : ∀ z, z ∈ S → UpR ps (· = x) z
 le : i < S.length
 yy : rd S i = y
 cl : ∀ j : Nat, j < i → ∀ p, p ∈ ps → rd p 1 = rd S j → rd p 0 ∈ S
 cj : ∀ j : Nat, j < kk → rd (ps.getD j []) 1 = y → rd (ps.getD j []) 0 ∈ S
theorem BfsI.start {ps : List (List Int)} {n : Nat} {x : Int} : BfsI ps n x [x] 0 := ⟨zz1h, zz1h, fun z hz => by rw [List.mem_singleton.1 hz]; exact .base rfl, zz1h, fun j hj => absurd hj (Nat.not_lt_zero _)⟩
theorem BfsI.take {ps : List (List Int)} {n : Nat} {x : Int} {S : List Int} {i : Nat} (h : BfsI ps n x S i) (hi : i < S.length) : BfsJ ps n x (rd S i) S i 0 := ⟨h.nd, h.st, h.up, hi, rfl, h.cl, fun j hj => absurd hj (Nat.not_lt_zero _)⟩
theorem BfsJ.skip {ps : List (List Int)} {n : Nat} {x y : Int} {S : List Int} {i kk : Nat} (h : BfsJ ps n x y S i kk) (hs : rd (ps.getD kk []) 1 ≠ y ∨ rd (ps.getD kk []) 0 ∈ S) : BfsJ ps n x y S i (kk + 1) :=
 ⟨h.nd, h.st, h.up, h.le, h.yy, h.cl, fun j hj e => by
  by_cases c : j = kk
  · subst c; exact hs.resolve_left (fun hn => hn e)
  · exact h.cj j zz1g e⟩
theorem rd_snoc {S : List Int} {z : Int} {j : Nat} (hj : j < S.length) : rd (S ++ [z]) j = rd S j := by
 unfold rd; rw [Int.toNat_natCast, List.getD_eq_getElem?_getD, List.getD_eq_getElem?_getD, List.getElem?_append_left hj]
theorem BfsJ.put {ps : List (List Int)} {n : Nat} {x y : Int} {S : List Int} {i kk : Nat} (h : BfsJ ps n x y S i kk) (hk : kk < ps.length) (he : rd (ps.getD kk []) 1 = y) (hn : rd (ps.getD kk []) 0 ∉ S) : BfsJ ps n x y (S ++ [rd (ps.getD kk []) 0]) i (kk + 1) := by
 have hm : ps.getD kk [] ∈ ps := by rw [List.getD_eq_getElem?_getD, List.getElem?_eq_getElem hk]; exact List.getElem_mem hk
 have hy : y ∈ S := by rw [← h.yy]; exact rd_in h.le
 refine ⟨?_, List.mem_append_left _ h.st, fun z hz => ?_, by rw [List.length_append]; have := h.le; simp; omega, by rw [rd_snoc h.le]; exact h.yy, fun j hj p hp e => ?_, fun j hj e => ?_⟩
 · rw [List.nodup_append]; exact ⟨h.nd, zz1h, fun a ha b hb e => by rw [List.mem_singleton.1 hb] at e; exact hn (e ▸ ha)⟩
 · rcases List.mem_append.1 hz with h1 | h1
   · exact h.up z h1
   · rw [List.mem_singleton.1 h1]; exact .step hm (by rw [he]; exact h.up y hy)
 · rw [rd_snoc (by have := h.le; omega)] at e; exact List.mem_append_left _ (h.cl j hj p hp e)
 · by_cases c : j = kk
   · subst c; exact List.mem_append_right _ (List.mem_singleton.2 rfl)
   · exact List.mem_append_left _ (h.cj j zz1g e)
theorem BfsJ.done {ps : List (List Int)} {n : Nat} {x y : Int} {S : List Int} {i kk : Nat} (h : BfsJ ps n x y S i kk) (hk : ps.length ≤ kk) : BfsI ps n x S (i + 1) :=
 ⟨h.nd, h.st, h.up, h.le, fun j hj p hp e => by
  by_cases c : j = i
  · subst c; obtain ⟨m, hm, rfl⟩ := List.getElem_of_mem hp; have := h.cj m zz1g; rw [List.getD_eq_getElem?_getD, List.getElem?_eq_getElem hm] at this; exact this (e.trans h.yy)
  · exact h.cl j zz1g p hp e⟩
theorem BfsI.fin {ps : List (List Int)} {n : Nat} {x : Int} {S : List Int} {i : Nat} (h : BfsI ps n x S i) (hi : S.length ≤ i) (hp : PairsIn n ps) (hx : x < n) : ((S.take i).filter fun z => decide (0 ≤ z)).mergeSort (fun a b => decide (a ≤ b)) = rowU n ps x := by
 rw [List.take_of_length_le hi]; have hmem : ∀ z, z ∈ S ↔ UpR ps (· = x) z := fun z => ⟨h.up z, fun hz => hz.least (T := fun z => z ∈ S) (fun z e => by rw [e]; exact h.st) (fun p hp hq => by
  obtain ⟨j, hj, e⟩ := in_rd hq; exact h.cl j (by have := h.le; omega) p hp e.symm)⟩
 have hs := List.pairwise_mergeSort (le := fun (x y : Int) => decide (x ≤ y)) (fun a b c h1 h2 => by simp at *; omega) (fun a b => by simp; omega) (S.filter fun z => decide (0 ≤ z)); have hnd : ((S.filter fun z => decide (0 ≤ z)).mergeSort fun a b => decide (a ≤ b)).Nodup := (List.mergeSort_perm _ _).nodup_iff.2 (h.nd.filter _); refine upI_ext ?_ (rowU_up n ps x) fun z => ?_
 · unfold UpI; have := List.Pairwise.and hs hnd; exact this.imp fun ⟨h1, h2⟩ => by
    have h3 := of_decide_eq_true h1; have h4 : _ ≠ _ := h2; omega
 · rw [List.mem_mergeSort, List.mem_filter, decide_eq_true_eq, mem_rowU hp hx, hmem]; exact And.comm
def MapS (D : DataW Value) (S : List Int) : Prop := Maps.IsMap D ∧ ∀ z : Int, D.atKey (.int .i64 z) (.held (.bool false)) = .held (.bool (decide (z ∈ S)))
theorem mapS_nil : MapS (DataW.map []) [] := ⟨⟨[], rfl⟩, fun z => by simp [DataW.atKey]⟩
theorem mapS_put {D : DataW Value} {S : List Int} (h : MapS D S) (y : Int) : MapS (D.put (.int .i64 y) (.held (.bool true))) (S ++ [y]) := ⟨h.1.put _ _, fun z => by
 by_cases c : z = y
 · subst c; rw [Maps.atKey_put_same (k := .int .i64 z) h.1 trivial, decide_eq_true (List.mem_append_right _ (List.mem_singleton.2 rfl))]
 · rw [Maps.atKey_put_other (fun e => by injection e with _ e; exact c e), h.2 z]; congr 2; rw [decide_eq_decide, List.mem_append, List.mem_singleton]; exact ⟨.inl, fun h => h.resolve_right c⟩⟩
end Go.Proofs.YtkocahlifffgjaaGreat.P
namespace Go.Proofs.YtkocahlifffgjaaGreat.P
open Go.RowKit Go.Proofs.YtkocahlifffgjaaGreatW.PrintWords Go.Proofs.YtkocahlifffgjaaGreatW.PrintLast Go.Proofs.YtkocahlifffgjaaGreatW.PrintMore
attribute [local go_sem] max2_int min2_int max_two min_two max_three min_three max_four min_four
set_option linter.unusedVariables false
set_option linter.unusedSimpArgs false
mutual
def spec_l6Up.l0 : Nat → List (List Int) → List Int → Bool → Option (List Int)
 | 0, _, _, _ => none
 | k + 1, x0, x5, x6 => if x6 = true then (spec_l6Up.l1 k x0 x5 false x0 (x0.length : Int) 0) else (some x5)
def spec_l6Up.l1 : Nat → List (List Int) → List Int → Bool → List (List Int) → Int → Int → Option (List Int)
 | 0, _, _, _, _, _, _ => none
 | k + 1, x0, x5, x6, gM, d8, dT => if dT < d8 then (if 0 ≤ dT then (if dT < (gM.length : Int) then (if 1 < ((rd_L1 gM dT).length : Int) then ((spec_l1Has.f k x5 (rd (rd_L1 gM dT) 1)).bind fun cp => (if cp = true then (if 0 < ((rd_L1 gM dT).length : Int) then ((spec_l1Has.f k x5 (rd (rd_L1 gM dT) 0)).bind fun cQ => (if cQ = true then (spec_l6Up.l1 k x0 x5 x6 gM d8 (wrap64 (dT + 1))) else ((spec_l1Put.f k x5 (rd (rd_L1 gM dT) 0)).bind fun cw => (spec_l6Up.l1 k x0 cw true gM d8 (wrap64 (dT + 1)))))) else (none)) else (spec_l6Up.l1 k x0 x5 x6 gM d8 (wrap64 (dT + 1))))) else (none)) else (none)) else (none)) else (spec_l6Up.l0 k x0 x5 x6)
end
def spec_l6Up.f (k : Nat) (l0 : List (List Int)) (l1 : List Int) : Option (List Int) := (spec_l1Own.f l1).bind fun cZ => (spec_l6Up.l0 k l0 cZ true)
set_option maxHeartbeats 8000000 in
set_option maxRecDepth 100000 in
theorem spec_l6Up.calls (k : Nat) (A0 : Option Addr) (c0 : Nat) (l0 : List (List Int)) (A1 : Option Addr) (c1 : Nat) (l1 : List Int) (r : List Int) (w : World) (dy : Kd.C (Kd.slice 3 (Kd.int .i64)) w A0 l0.length l0) (dz : l0.length ≤ c0) (fJ : Kd.C (Kd.int .i64) w A1 l1.length l1) (fK : l1.length ≤ c1) (h : spec_l6Up.f k l0 l1 = some r) :
 Calls Tryz.prog 46 #[.slice A0 l0.length c0, .slice A1 l1.length c1] w fun e w' => ∃ et : Value, e = .returned (et) ∧ Kd.R (Kd.int .i64) 3 w' w.heap.size (fun _ => True) et r ∧ Below w.heap.size w w' := by
 have dq := zA dy; have hZ := zA dz; clear dy dz; have fV := zA fJ; have lb := zA fK; clear fJ fK; have HB := zA (Below.refl w.heap.size w); have H : ((spec_l1Own.f l1).bind fun cZ => (spec_l6Up.l0 k l0 cZ true)) = some r := h; clear h; replace H := Option.bind_eq_some_iff.mp H; obtain ⟨cZ, g5, H⟩ := H; have A3 := zA g5; clear g5; have H' := zA H; clear H; go_enter Tryz.func46, Tryz.ntmps46; go_wp2_with (first | ((with_reducible refine gate_callee (f := 66) rfl ?_); refine goesL_ (some 10) rfl rfl Tryz.func66 zz1c rfl #[.slice A1 l1.length c1] rfl zz0d ?_; (with_reducible refine (spec_l1Own.calls _ _ l1 cZ _ ?aj ?ak A3.out).mono ?_); (case aj => repeat (first | exact fV.out | refine zP ?_ _ | refine zQ ?_ _ | refine zR ?_)); (case ak => exact lb.out); rintro e w4 ⟨iT, rfl, cj, hb⟩; refine ⟨_, rfl, ?_⟩; have fr := zA (Kd.R_lower cj (zF (zz0q HB))); replace HB := zA (zG (zz0q HB) hb); (try clear hb); (try clear hb2); (try clear hk); (try clear hi); (try clear cj))); go_loopg [5, 6] k (fun kq v5 v6 w' => ∃ (ao : List Int) (m5 : Bool), v6 = .bool m5 ∧ Aside0 (spec_l6Up.l0 kq l0 ao m5 = some r) ∧ Aside0 (kq ≤ k) ∧ Aside0 (Kd.R (Kd.int .i64) 3 w' w.heap.size (fun _ => True) v5 ao) ∧ Aside0 (Below w.heap.size w w'))
 case atStart => exact ⟨(cZ), (true), zz0y, H', ⟨Nat.le_refl _⟩, ⟨zz0u fr⟩, ⟨zz0q HB⟩⟩
 case round =>
  clear H'; (try clear c1); (try clear p2); (try clear c4); obtain ⟨ao, m5, rfl, HA, bJ, cR, HB⟩ := hrel; cases gk with
  | zero => exact absurd HA.out (by simp [spec_l6Up.l0])
  | succ k1 =>
   have H := HA.out; clear HA; simp only [spec_l6Up.l0] at H; by_cases c5 : m5 = true
   · subst c5; rw [if_pos rfl] at H; have H' := zA H; clear H; go_wp2; go_loopg [5, 6, 14] k1 (fun kq v5 v6 mX w' => ∃ (fn : List Int) (la : Bool) (a8 : Int), v6 = .bool la ∧ mX = .int .i64 a8 ∧ Aside0 (spec_l6Up.l1 kq l0 fn la l0 (l0.length : Int) a8 = some r) ∧ Aside0 (kq ≤ k1) ∧ Aside0 (Kd.R (Kd.int .i64) 3 w' w.heap.size (fun _ => True) v5 fn) ∧ Aside0 (Below w.heap.size w w'))
     case atStart => exact ⟨(ao), (false), (0), zz0y, zz0y, H', ⟨Nat.le_refl _⟩, ⟨zz0u cR⟩, ⟨zz0q HB⟩⟩
     case round =>
      clear H'; (try clear c1); (try clear p2); (try clear c4); (try clear c5); (try clear p2); obtain ⟨fn, la, a8, rfl, rfl, HA, cS, cR, HB⟩ := hrel; cases gk with
      | zero => exact absurd HA.out (by simp [spec_l6Up.l1])
      | succ k2 =>
       have H := HA.out; clear HA; simp only [spec_l6Up.l1] at H; by_cases c6 : a8 < (l0.length : Int)
       · rw [if_pos c6] at H; have dt := decide_eq_true c6; clear c6; replace H := zIn H; obtain ⟨c7, H⟩ := H; have dA : decide (0 ≤ a8) = true := decide_eq_true c7; clear c7; replace H := zIn H; obtain ⟨c8, H⟩ := H; have dY : decide (a8 < (l0.length : Int)) = true := decide_eq_true c8; clear c8; replace H := zIn H; obtain ⟨c9, H⟩ := H; have eN : decide (1 < ((rd_L1 l0 a8).length : Int)) = true := decide_eq_true c9; have pw : decide (1 < (rd_L1 l0 a8).length) = true := decide_eq_true zz1g; clear c9; replace H := Option.bind_eq_some_iff.mp H; obtain ⟨cp, fw, H⟩ := H; have iS := zA fw; clear fw; by_cases eF : cp = true
         · subst eF; rw [if_pos rfl] at H; replace H := zIn H; obtain ⟨eV, H⟩ := H; have he : decide (0 < ((rd_L1 l0 a8).length : Int)) = true := decide_eq_true eV; have lX : decide (0 < (rd_L1 l0 a8).length) = true := decide_eq_true zz1g; clear eV; replace H := Option.bind_eq_some_iff.mp H; obtain ⟨cQ, gf, H⟩ := H; have kt := zA gf; clear gf; by_cases gw : cQ = true
           · subst gw; rw [if_pos rfl] at H; have H' := zA H; clear H; have dv : 0 ≤ (a8 : Int) := of_decide_eq_true zz1b; have dw : a8 < (l0.length : Int) := of_decide_eq_true zz1b; obtain ⟨gy, gh, gi, fN, bK, cA, cB⟩ := at_L1 dq.out a8 dv dw; cases fN; replace bK := (HB.out.cell (World.block_lt_of_cell? w _ bK)).trans bK; have dk := zA cB; have fx := zA cA; clear cB cA; replace dv := eq_true dv; replace dw := eq_true dw; have b8 : 0 ≤ (1 : Int) := zz1g
             have b9 : 1 < ((rd_L1 l0 a8).length : Int) := of_decide_eq_true zz1b; obtain ⟨dP, dC, aG⟩ := Kd.at_int dk.out 1 b8 b9; cases dC; (try simp only [show (1 : Int).toNat = 1 from rfl, Nat.reduceMul, Nat.reduceEqDiff, Go.Addr.add, ↓reduceIte] at aG); have nV : (1 < (rd_L1 l0 a8).length) = True := eq_true zz1g; (try rw [zi1] at aG); replace aG := (HB.out.cell (World.block_lt_of_cell? w _ aG)).trans aG; replace b8 := eq_true b8; replace b9 := eq_true b9; obtain ⟨eO, eP, n9⟩ := Kd.R_slice cR.out; subst n9; go_wp2_with (first | ((with_reducible refine gate_callee (f := 65) rfl ?_); refine goesL_ (some 22) rfl rfl Tryz.func65 zz1c rfl #[.slice eO fn.length eP, .int .i64 (rd (rd_L1 l0 a8) 1)] rfl zz0d ?_; (with_reducible refine (spec_l1Has.calls k2 _ _ fn (rd (rd_L1 l0 a8) 1) true _ ?aj ?ak iS.out).mono ?_); (case aj => repeat (first | exact (Kd.R_reads' cR.out).2.2 | refine zP ?_ _ | refine zQ ?_ _ | refine zR ?_)); (case ak => exact (Kd.R_reads' cR.out).2.1); rintro e w' ⟨rfl, ⟨nd, rfl⟩⟩; refine ⟨_, rfl, ?_⟩; have jV : 0 ≤ (0 : Int) := zz1g; have jW : 0 < ((rd_L1 l0 a8).length : Int) := of_decide_eq_true zz1b; obtain ⟨mh, o9, dJ⟩ := Kd.at_int dk.out 0 jV jW; obtain rfl : dP = mh := (by injection o9); have qi107 : (0 < (rd_L1 l0 a8).length) = True := eq_true zz1g; (try rw [zi0] at dJ); (try rw [Addr.add_zero'] at dJ); replace dJ := (HB.out.cell (World.block_lt_of_cell? w _ dJ)).trans dJ; replace jV := eq_true jV; replace jW := eq_true jW) | (go_at_call 65; (with_reducible refine (spec_l1Has.calls k2 _ _ fn (rd (rd_L1 l0 a8) 0) true _ ?aj ?ak kt.out).mono ?_); (case aj => repeat (first | exact (Kd.R_reads' cR.out).2.2 | refine zP ?_ _ | refine zQ ?_ _ | refine zR ?_)); (case ak => exact (Kd.R_reads' cR.out).2.1); rintro e w' ⟨rfl, ⟨nd, rfl⟩⟩))
             go_roundg k2
             case measure => have := bJ.out; have := cS.out; omega
             case rel => exact ⟨(fn), (la), (wrap64 (a8 + 1)), zz0y, zz0y, H', ⟨zz15 bJ cS⟩, ⟨zz0u cR⟩, ⟨zz0q HB⟩⟩
           · replace gw := Bool.eq_false_iff.mpr gw; subst gw; rw [if_neg zFt] at H; replace H := Option.bind_eq_some_iff.mp H; obtain ⟨cw, i7, H⟩ := H; have mH := zA i7; clear i7; have H' := zA H; clear H; have dv : 0 ≤ (a8 : Int) := of_decide_eq_true zz1b; have dw : a8 < (l0.length : Int) := of_decide_eq_true zz1b; obtain ⟨gy, gh, gi, fN, bK, cA, cB⟩ := at_L1 dq.out a8 dv dw; cases fN; replace bK := (HB.out.cell (World.block_lt_of_cell? w _ bK)).trans bK; have dk := zA cB; have fx := zA cA; clear cB cA; replace dv := eq_true dv; replace dw := eq_true dw; have b8 : 0 ≤ (1 : Int) := zz1g
             have b9 : 1 < ((rd_L1 l0 a8).length : Int) := of_decide_eq_true zz1b; obtain ⟨dP, dC, aG⟩ := Kd.at_int dk.out 1 b8 b9; cases dC; (try simp only [show (1 : Int).toNat = 1 from rfl, Nat.reduceMul, Nat.reduceEqDiff, Go.Addr.add, ↓reduceIte] at aG); have nV : (1 < (rd_L1 l0 a8).length) = True := eq_true zz1g; (try rw [zi1] at aG); replace aG := (HB.out.cell (World.block_lt_of_cell? w _ aG)).trans aG; replace b8 := eq_true b8; replace b9 := eq_true b9; obtain ⟨m6, m7, eo17⟩ := Kd.R_slice cR.out; subst eo17; go_wp2_with (first | ((with_reducible refine gate_callee (f := 65) rfl ?_); refine goesL_ (some 22) rfl rfl Tryz.func65 zz1c rfl #[.slice m6 fn.length m7, .int .i64 (rd (rd_L1 l0 a8) 1)] rfl zz0d ?_; (with_reducible refine (spec_l1Has.calls k2 _ _ fn (rd (rd_L1 l0 a8) 1) true _ ?aj ?ak iS.out).mono ?_); (case aj => repeat (first | exact (Kd.R_reads' cR.out).2.2 | refine zP ?_ _ | refine zQ ?_ _ | refine zR ?_)); (case ak => exact (Kd.R_reads' cR.out).2.1); rintro e w' ⟨rfl, ⟨nd, rfl⟩⟩; refine ⟨_, rfl, ?_⟩; have jV : 0 ≤ (0 : Int) := zz1g; have jW : 0 < ((rd_L1 l0 a8).length : Int) := of_decide_eq_true zz1b; obtain ⟨mh, o9, dJ⟩ := Kd.at_int dk.out 0 jV jW; obtain rfl : dP = mh := (by injection o9); have qi107 : (0 < (rd_L1 l0 a8).length) = True := eq_true zz1g; (try rw [zi0] at dJ); (try rw [Addr.add_zero'] at dJ); replace dJ := (HB.out.cell (World.block_lt_of_cell? w _ dJ)).trans dJ; replace jV := eq_true jV; replace jW := eq_true jW) | (go_at_call 65; (with_reducible refine (spec_l1Has.calls k2 _ _ fn (rd (rd_L1 l0 a8) 0) false _ ?aj ?ak kt.out).mono ?_); (case aj => repeat (first | exact (Kd.R_reads' cR.out).2.2 | refine zP ?_ _ | refine zQ ?_ _ | refine zR ?_)); (case ak => exact (Kd.R_reads' cR.out).2.1); rintro e w' ⟨rfl, ⟨nd, rfl⟩⟩; have pa : 0 ≤ (0 : Int) := zz1g; have pb : 0 < ((rd_L1 l0 a8).length : Int) := of_decide_eq_true zz1b; obtain ⟨ad109, e109, gg⟩ := Kd.at_int dk.out 0 pa pb; obtain rfl : dP = ad109 := (by injection e109); have qi109 : (0 < (rd_L1 l0 a8).length) = True := eq_true zz1g; (try rw [zi0] at gg); (try rw [Addr.add_zero'] at gg); replace gg := (HB.out.cell (World.block_lt_of_cell? w _ gg)).trans gg; replace pa := eq_true pa; replace pb := eq_true pb) | ((with_reducible refine gate_callee (f := 45) rfl ?_); refine goesL_ (some 35) rfl rfl Tryz.func45 zz1c rfl #[.slice m6 fn.length m7, .int .i64 (rd (rd_L1 l0 a8) 0)] rfl zz0d ?_; (with_reducible refine (spec_l1Put.calls k2 (fun k_ => some k_ = (.slice m6 fn.length m7 : Value).ownBlock) (.slice m6 fn.length m7) fn (rd (rd_L1 l0 a8) 0) cw w _ ?aj ?ak mH.out).mono ?_); (case aj => repeat (first | (with_reducible first | exact HB.out | apply zB | apply zC | apply zD) | exact HB.out)); (case ak => exact Kd.R_tight rfl cR.out); rintro e ic ⟨mB, rfl, cj, hb, hkp⟩; refine ⟨_, rfl, ?_⟩; have cN := zA (Kd.R_mono (ok' := fun k_ => True) cj (fun k_ hk_ => trivial)); replace HB := zA (hb); clear cR; (try clear hb); (try clear hkp); (try clear cj)))
             go_roundg k2
             case measure => have := bJ.out; have := cS.out; omega
             case rel => exact ⟨(cw), (true), (wrap64 (a8 + 1)), zz0y, zz0y, H', ⟨zz15 bJ cS⟩, ⟨zz0u cN⟩, ⟨zz0q HB⟩⟩
         · replace eF := Bool.eq_false_iff.mpr eF; subst eF; rw [if_neg zFt] at H; have H' := zA H; clear H; have dv : 0 ≤ (a8 : Int) := of_decide_eq_true zz1b; have dw : a8 < (l0.length : Int) := of_decide_eq_true zz1b; obtain ⟨gy, gh, gi, fN, bK, cA, cB⟩ := at_L1 dq.out a8 dv dw; cases fN; replace bK := (HB.out.cell (World.block_lt_of_cell? w _ bK)).trans bK; have dk := zA cB; have fx := zA cA; clear cB cA; replace dv := eq_true dv; replace dw := eq_true dw; have b8 : 0 ≤ (1 : Int) := zz1g
           have b9 : 1 < ((rd_L1 l0 a8).length : Int) := of_decide_eq_true zz1b; obtain ⟨dP, dC, aG⟩ := Kd.at_int dk.out 1 b8 b9; cases dC; (try simp only [show (1 : Int).toNat = 1 from rfl, Nat.reduceMul, Nat.reduceEqDiff, Go.Addr.add, ↓reduceIte] at aG); have nV : (1 < (rd_L1 l0 a8).length) = True := eq_true zz1g; (try rw [zi1] at aG); replace aG := (HB.out.cell (World.block_lt_of_cell? w _ aG)).trans aG; replace b8 := eq_true b8; replace b9 := eq_true b9; obtain ⟨fE, fF, ob⟩ := Kd.R_slice cR.out; subst ob; go_wp2_with (first | ((with_reducible refine gate_callee (f := 65) rfl ?_); refine goesL_ (some 22) rfl rfl Tryz.func65 zz1c rfl #[.slice fE fn.length fF, .int .i64 (rd (rd_L1 l0 a8) 1)] rfl zz0d ?_; (with_reducible refine (spec_l1Has.calls k2 _ _ fn (rd (rd_L1 l0 a8) 1) false _ ?aj ?ak iS.out).mono ?_); (case aj => repeat (first | exact (Kd.R_reads' cR.out).2.2 | refine zP ?_ _ | refine zQ ?_ _ | refine zR ?_)); (case ak => exact (Kd.R_reads' cR.out).2.1); rintro e w' ⟨rfl, ⟨nd, rfl⟩⟩; refine ⟨_, rfl, ?_⟩))
           go_roundg k2
           case measure => have := bJ.out; have := cS.out; omega
           case rel => exact ⟨(fn), (la), (wrap64 (a8 + 1)), zz0y, zz0y, H', ⟨zz15 bJ cS⟩, ⟨zz0u cR⟩, ⟨zz0q HB⟩⟩
       · rw [if_neg c6] at H; have dt := decide_eq_false c6; clear c6; have H' := zA H; clear H; go_wp2
         go_roundg k2
         case measure => have := bJ.out; have := cS.out; omega
         case rel => exact ⟨(fn), (la), zz0y, H', ⟨zz15 bJ cS⟩, ⟨zz0u cR⟩, ⟨zz0q HB⟩⟩
   · replace c5 := Bool.eq_false_iff.mpr c5; subst c5; rw [if_neg zFt] at H; obtain rfl := Option.some.inj H; go_wp2; go_ret; exact ⟨_, zz0r, zz0u cR, zz0q HB⟩
def spec_l6Row.l0 : Nat → List Int → List Int → Int → Int → Option (List Int)
 | 0, _, _, _, _ => none
 | k + 1, x5, gM, d8, dT => if dT < d8 then (if 0 ≤ dT then (if dT < (gM.length : Int) then (if (rd gM dT) ≥ 0 then (if x5.length < 17592186044416 then (spec_l6Row.l0 k (x5 ++ [rd gM dT]) gM d8 (wrap64 (dT + 1))) else (none)) else (spec_l6Row.l0 k x5 gM d8 (wrap64 (dT + 1)))) else (none)) else (none)) else (some x5)
def spec_l6Row.f (k : Nat) (ae : Int) (al : Int) (ab : List (List Int)) (af : List (List Int)) (ai : List Int) (ah : List (List Int)) (a1 : Int) : Option (List Int) := (spec_l6Pairs.f k ae al ab af ai ah).bind fun aH => ((spec_l6Up.f k aH (([a1] : List Int))).bind fun cQ => (spec_l6Row.l0 k ([] : List Int) cQ (cQ.length : Int) 0))
set_option maxHeartbeats 8000000 in
set_option maxRecDepth 100000 in
theorem spec_l6Row.calls (k : Nat) (ae : Int) (al : Int) (az : Option Addr) (aq : Nat) (ab : List (List Int)) (ay : Option Addr) (av : Nat) (af : List (List Int)) (ar : Option Addr) (au : Nat) (ai : List Int) (aw : Option Addr) (ax : Nat) (ah : List (List Int)) (a1 : Int) (r : List Int) (w : World) (bX : Kd.C (Kd.slice 3 (Kd.int .i64)) w az ab.length ab) (bY : ab.length ≤ aq) (bZ : Kd.C (Kd.slice 3 (Kd.int .i64)) w ay af.length af) (b0 : af.length ≤ av) (b1 : Kd.C (Kd.int .i64) w ar ai.length ai) (b2 : ai.length ≤ au) (b3 : Kd.C (Kd.slice 3 (Kd.int .i64)) w aw ah.length ah) (b4 : ah.length ≤ ax) (h : spec_l6Row.f k ae al ab af ai ah a1 = some r) :
 Calls Tryz.prog 43 #[.agg #[.int .i64 ae, .int .i64 al, .slice az ab.length aq, .slice ay af.length av, .slice ar ai.length au, .slice aw ah.length ax], .int .i64 a1] w fun e w' => ∃ et : Value, e = .returned (et) ∧ Kd.R (Kd.int .i64) 3 w' w.heap.size (fun _ => True) et r ∧ Below w.heap.size w w' := by
 have hu32 := Tryz.underlying32; have bs := zA bX; have bw := zA bY; clear bX bY; have bt := zA bZ; have bz := zA b0; clear bZ b0; have bA := zA b1; have bB := zA b2; clear b1 b2; have bC := zA b3; have bI := zA b4; clear b3 b4; have HB := zA (Below.refl w.heap.size w); have H : ((spec_l6Pairs.f k ae al ab af ai ah).bind fun aH => ((spec_l6Up.f k aH (([a1] : List Int))).bind fun cQ => (spec_l6Row.l0 k ([] : List Int) cQ (cQ.length : Int) 0))) = some r := h; clear h; replace H := Option.bind_eq_some_iff.mp H; obtain ⟨aH, g5, H⟩ := H; have A3 := zA g5; clear g5; obtain ⟨eu, e_y⟩ : ∃ y_ : List Int, y_ = (([a1] : List Int)) := ⟨_, rfl⟩
 replace H : ((spec_l6Up.f k aH eu).bind fun cQ => (spec_l6Row.l0 k ([] : List Int) cQ (cQ.length : Int) 0)) = some r := zz02
 have fL := zA e_y; clear e_y; replace H := Option.bind_eq_some_iff.mp H; obtain ⟨cQ, fM, H⟩ := H; have A4 := zA fM; clear fM; have H' := zA H; clear H; go_enter Tryz.func43, Tryz.ntmps43; go_wp2_with (first | ((with_reducible refine gate_dst (N := 2) rfl ?_); refine box_event ?hg (N := 2) ?hd (cs := #[.int .i64 ae, .int .i64 al, .slice az ab.length aq, .slice ay af.length av, .slice ar ai.length au, .slice aw ah.length ax]) (t := 32) ?hr ?_; (case hd => rfl); (case hg => rfl); (case hr => first | (go_simp; done) | (go_simp; rfl)); intro ad hg w5 hbox hb; have aa := zA (hbox); have bD := zA ((by rw [hg]; exact (zF (zz0q HB)) : w.heap.size ≤ ad)); have ac := zA ((by rw [hg]; exact (zF (zz0q HB)) : w.heap.size ≤ ad)); replace HB := zA (zG (zz0q HB) hb); clear hb hbox hg; obtain ⟨eK, eL, gs, gt, gu, gv⟩ := zk6 aa.out; have hfz6_5 := zL aa.out 5) | ((with_reducible refine gate_callee (f := 47) rfl ?_); refine goesL_ (some 9) rfl rfl Tryz.func47 zz1c rfl #[.agg #[.int .i64 ae, .int .i64 al, .slice az ab.length aq, .slice ay af.length av, .slice ar ai.length au, .slice aw ah.length ax]] rfl zz0d ?_; (with_reducible refine (spec_l6Pairs.calls k ae al _ _ ab _ _ af _ _ ai _ _ ah aH _ ?aj ?ak ?aI ?aJ ?bh ?bi ?bj ?bk A3.out).mono ?_); (case aj => exact (zz0t bs HB)); (case ak => exact bw.out); (case aI => exact (zz0t bt HB)); (case aJ => exact bz.out); (case bh => exact (zz0t bA HB)); (case bi => exact bB.out); (case bj => exact (zz0t bC HB)); (case bk => exact bI.out); rintro e w7 ⟨e1, rfl, cj, hb⟩; refine ⟨_, rfl, ?_⟩; have d3 := zA (Kd.V_lower (Kd.V_mono (ok' := fun k_ => k_ ≠ ad) cj (fun k_ hk_ => (Kd.freshB (g := ad) (o := .cells #[.int .i64 ae, .int .i64 al, .slice az ab.length aq, .slice ay af.length av, .slice ar ai.length au, .slice aw ah.length ax] 32 (0, 0)) (zz0s aa) k_ hk_))) (zF (zz0h HB ac))); replace aa := zA (zMp aa.out hb); replace HB := zA (zG (zz0h HB ac) hb); (try clear hb); (try clear hb2); (try clear hk); (try clear hi); (try clear cj)) | ((with_reducible refine gate_dst (N := 11) rfl ?_); refine Kd.R_lit (Kd.int .i64) _ 3 ?hg (N := 11) ?hd (xs := ([a1] : List Int)) (inner := [.int .i64 a1]) (ok := fun _ => True) (okp := fun _ => True) ?hr ?hp (fun _ hk => hk) trivial (Below.refl _ _) (Nat.le_refl _) zz1h ?_; (case hd => rfl); (case hg => rfl); (case hr => first | (go_simp; done) | (go_simp; rfl)); (case hp => exact (Reps.one (show Kd.M (Kd.int .i64) _ _ _ a1 [.int .i64 a1] from rfl) (Reps.none _ _))); intro ju w8 po hb hg_ hnew_; clear hg_ hnew_; (first | rw [← fL.out] at po | (simp only [Int.reduceToNat] at po; rw [← fL.out] at po)); replace d3 := zA (Kd.V_elder' (zz0o d3) (Kd.R_base po) hb); have dN := zA (Kd.R_lower po (zF (zz0h HB ac))); replace aa := zA (zMp aa.out hb); replace HB := zA (zG (zz0h HB ac) hb); clear hb po; obtain ⟨Ao10, my, mz⟩ := Kd.V_slice d3.out; subst mz; obtain ⟨jn, jo, pc⟩ := Kd.R_slice dN.out; subst pc) | ((with_reducible refine gate_callee (f := 46) rfl ?_); refine goesL_ (some 12) rfl rfl Tryz.func46 zz1c rfl #[.slice Ao10 aH.length my, .slice jn eu.length jo] rfl zz0d ?_; (with_reducible refine (spec_l6Up.calls k _ _ aH _ _ eu cQ _ ?aj ?ak ?aI ?aJ A4.out).mono ?_); (case aj => repeat (first | exact (Kd.V_reads' d3.out).2.2 | refine zP ?_ _ | refine zQ ?_ _ | refine zR ?_)); (case ak => exact (Kd.V_reads' d3.out).2.1); (case aI => repeat (first | exact (Kd.R_reads' dN.out).2.2 | refine zP ?_ _ | refine zQ ?_ _ | refine zR ?_)); (case aJ => exact (Kd.R_reads' dN.out).2.1); rintro e kR ⟨v109, rfl, cj, hb⟩; refine ⟨_, rfl, ?_⟩; replace d3 := zA (Kd.V_elder' (zz0o d3) (Kd.R_base cj) hb); have ku := zA (Kd.R_lower (Kd.R_new' cj (Kd.R_lt (zz0u dN))) (zF (zz0h HB ac))); replace dN := zA (Kd.R_elder' (zz0u dN) (Kd.R_base cj) hb); replace aa := zA (zMp aa.out hb); replace HB := zA (zG (zz0h HB ac) hb); (try clear hb); (try clear hb2); (try clear hk); (try clear hi); (try clear cj); obtain ⟨k9, jQ, l7⟩ := Kd.R_slice ku.out; subst l7)); go_loopg [5, 14] k (fun kq v5 mX w' => ∃ (ao : List Int) (co : Int), mX = .int .i64 co ∧ Aside0 (spec_l6Row.l0 kq ao cQ (cQ.length : Int) co = some r) ∧ Aside0 (kq ≤ k) ∧ Aside0 (Kd.R (Kd.int .i64) 3 w' w.heap.size (fun k_ => some k_ ≠ ((.slice k9 cQ.length jQ) : Value).ownBlock) v5 ao) ∧ Aside0 (Kd.R (Kd.int .i64) 3 w' w.heap.size (fun k_ => some k_ ≠ (v5 : Value).ownBlock) (.slice k9 cQ.length jQ) cQ) ∧ Aside0 (w'.heap[ad]? = some (.cells #[.int .i64 ae, .int .i64 al, (.slice az ab.length aq), (.slice ay af.length av), (.slice ar ai.length au), (.slice aw ah.length ax)] 32 (0, 0))) ∧ Aside0 (Below w.heap.size w w'))
 case atStart => exact ⟨(([] : List Int)), (0), zz0y, H', ⟨Nat.le_refl _⟩, ⟨zz0c⟩, ⟨by (with_reducible repeat (first | apply zT | apply zU | apply zV)); exact Kd.R_mono ku.out (fun _ hk => (by simp [Value.ownBlock]))⟩, ⟨zz0s aa⟩, ⟨zz0h HB ac⟩⟩
 case round =>
  clear H'; (try clear p2); (try clear c4); (try clear eK); (try clear eL); (try clear gs); (try clear gt); (try clear gu); (try clear gv); obtain ⟨ao, co, rfl, HA, bJ, cR, hR, aa, HB⟩ := hrel; cases gk with
  | zero => exact absurd HA.out (by simp [spec_l6Row.l0])
  | succ k1 =>
   have H := HA.out; clear HA; simp only [spec_l6Row.l0] at H; by_cases gw : co < (cQ.length : Int)
   · rw [if_pos gw] at H; have iX := decide_eq_true gw; clear gw; replace H := zIn H; obtain ⟨jw, H⟩ := H; have i6 : decide (0 ≤ co) = true := decide_eq_true jw; clear jw; replace H := zIn H; obtain ⟨iR, H⟩ := H; have mi : decide (co < (cQ.length : Int)) = true := decide_eq_true iR; clear iR; by_cases gq : (rd cQ co) ≥ 0
     · rw [if_pos gq] at H; have ia : decide (0 ≤ (rd cQ co)) = true := decide_eq_true gq; clear gq; replace H := zIn H; obtain ⟨gr, H⟩ := H; have lY := zA gr; clear gr; obtain ⟨jd, e_y⟩ : ∃ y_ : List Int, y_ = (ao ++ [rd cQ co]) := ⟨_, rfl⟩
       replace H : (spec_l6Row.l0 k1 jd cQ (cQ.length : Int) (wrap64 (co + 1))) = some r := zz02
       have lL := zA e_y; clear e_y; have H' := zA H; clear H; have jX : 0 ≤ (co : Int) := of_decide_eq_true zz1b; have jY : co < (cQ.length : Int) := of_decide_eq_true zz1b; obtain ⟨nW, pd, hx111_0⟩ := Kd.at_int (Kd.R_reads' hR.out).2.2 co jX jY; cases pd; replace jX := eq_true jX; replace jY := eq_true jY; go_wp2_with (first | ((with_reducible refine gate_builtin (b := .append) (xs := #[.tmp 20, .tmp 22]) rfl ?_); at_builtin; refine Kd.R_append (Kd.int .i64) (w0 := w) w.heap.size rfl (.tmp 20) (.tmp 22) 23 3 (.int .i64 0) 8 rfl Tryz.underlying23 info3 rfl zz1f zz1g u5 ao (rd cQ co) [.int .i64 (rd cQ co)] (fun k_ => some k_ ≠ (.slice (some nW) cQ.length jQ : Value).ownBlock) (fun _ => False) rfl rfl ?aP (fun _ hk => hk.elim) ?aF ?aO ?aB ?aS ?aL ?_; (case aP => exact rfl); (case aB => exact (zz0h HB ac)); (case aF => exact (fun k_ hk => Kd.fresh' (Kd.R_lt (zz0u hR)) k_ hk)); (case aO => exact (zz0u cR)); (case aS => exact (zF (zz0h HB ac))); (case aL => have := lY.out; omega); intro v113 qt ho hb hg hat; rw [← lL.out] at ho; replace hR := zA (Kd.R_after (ok := (fun _ => True)) (by (with_reducible repeat (first | apply zT | apply zU | apply zV)); exact Kd.R_mono hR.out (fun _ hk => ⟨trivial, hk⟩)) hg hat); replace aa := zA (blk_grown (g := ad) (o := .cells #[.int .i64 ae, .int .i64 al, .slice az ab.length aq, .slice ay af.length av, .slice ar ai.length au, .slice aw ah.length ax] 32 (0, 0)) (zz0s aa) hg (Kd.R_ne cR.out aa.out zz1f)); replace HB := zA (hb); have h9 := zA (ho); clear cR; clear ho hb hg hat))
       go_roundg k1
       case measure => have := bJ.out; omega
       case rel => exact ⟨(jd), (wrap64 (co + 1)), zz0y, H', ⟨zz18 bJ⟩, ⟨zz0u h9⟩, ⟨by (with_reducible repeat (first | apply zT | apply zU | apply zV)); exact Kd.R_mono hR.out (fun _ hk => hk.2)⟩, ⟨zz0s aa⟩, ⟨zz0h HB ac⟩⟩
     · rw [if_neg gq] at H; have ia : decide (0 ≤ (rd cQ co)) = false := decide_eq_false gq; clear gq; have H' := zA H; clear H; have jX : 0 ≤ (co : Int) := of_decide_eq_true zz1b; have jY : co < (cQ.length : Int) := of_decide_eq_true zz1b; obtain ⟨nW, pd, hx111_0⟩ := Kd.at_int (Kd.R_reads' hR.out).2.2 co jX jY; cases pd; replace jX := eq_true jX; replace jY := eq_true jY; go_wp2
       go_roundg k1
       case measure => have := bJ.out; omega
       case rel => exact ⟨(ao), (wrap64 (co + 1)), zz0y, H', ⟨zz18 bJ⟩, ⟨zz0u cR⟩, ⟨zz0u hR⟩, ⟨zz0s aa⟩, ⟨zz0h HB ac⟩⟩
   · rw [if_neg gw] at H; have iX := decide_eq_false gw; clear gw; obtain rfl := Option.some.inj H; go_wp2; go_ret; exact ⟨_, zz0r, zz0i cR, zz0h HB ac⟩
end Go.Proofs.YtkocahlifffgjaaGreat.P
namespace Go.Proofs.YtkocahlifffgjaaGreat.P
open Go.RowKit Go.Proofs.YtkocahlifffgjaaGreatW.PrintWords
set_option linter.unusedVariables false
set_option linter.unusedSimpArgs false
structure UuI (m n : Nat) (ps : List (List Int)) (es : List Int) (out : List Int) : Prop where
 up : UpI out
 rg : ∀ x, x ∈ out → -(m : Int) ≤ x ∧ x < n
 lo : ∀ x, x ∈ es → x ∈ out
 hi : ∀ x, x ∈ out → UpR ps (· ∈ es) x
theorem UuI.len {m n : Nat} {ps : List (List Int)} {es out : List Int} (h : UuI m n ps es out) : out.length ≤ m + n := by
 have := upI_len out (-(m : Int)) n h.up h.rg zz1g; omega
theorem UuI.put {m n : Nat} {ps : List (List Int)} {es out : List Int} (h : UuI m n ps es out) {p : List Int} (hp : p ∈ ps) (h0 : 0 ≤ rd p 0 ∧ rd p 0 < n) (h1 : rd p 1 ∈ out) : UuI m n ps es (putI out (rd p 0)) :=
 ⟨upI_put _ _ h.up, fun x hx => by
  rcases (mem_putI _ _ _).1 hx with e | e
  · rw [e]; omega
  · exact h.rg x e, fun x hx => (mem_putI _ _ _).2 (.inr (h.lo x hx)), fun x hx => by
  rcases (mem_putI _ _ _).1 hx with e | e
  · rw [e]; exact .step hp (h.hi _ h1)
  · exact h.hi x e⟩
theorem UuI.fin {m n : Nat} {ps : List (List Int)} {es out : List Int} (h : UuI m n ps es out) (hc : ∀ p, p ∈ ps → rd p 1 ∈ out → rd p 0 ∈ out) (x : Int) : x ∈ out ↔ UpR ps (· ∈ es) x :=
 ⟨h.hi x, fun hx => hx.least (T := fun x => x ∈ out) h.lo hc⟩
structure UpP (m n : Nat) (ps : List (List Int)) (es : List Int) (m0 i : Nat) (out : List Int) (more : Bool) : Prop where
 ui : UuI m n ps es out
 le : m0 ≤ out.length
 lt : more = true → m0 < out.length
 cl : more = false → ∀ p, fstOf ps i p → rd p 1 ∈ out → rd p 0 ∈ out
section
variable {m n : Nat} (hn : n ≤ 40) (hm : m ≤ 40) {ps : List (List Int)} {es : List Int} (hps : PairsIn n ps) (hpl : ps.length ≤ 9223372036854775807)
include hn hm hps hpl
theorem sup_l1 (X : List Int) (m0 : Nat) (h0 : ∀ out more, UpP m n ps es m0 ps.length out more → Ev (fun k => spec_l6Up.l0 k ps out more) X) (d : Nat) : ∀ (i : Nat) (out : List Int) (more : Bool), i ≤ ps.length → ps.length - i = d → UpP m n ps es m0 i out more →
 Ev (fun k => spec_l6Up.l1 k ps out more ps ps.length i) X := by
 induction d with
 | zero =>
  intro i out more h1 hd hp; have ei : i = ps.length := by omega
  subst ei; obtain ⟨K, h⟩ := h0 out more hp; dsimp only at h; refine ⟨K + 1, fun k hk => ?_⟩; dsimp only; obtain ⟨k, rfl⟩ : ∃ m, k = m + 1 := ⟨k - 1, zz1g⟩
  simp only [spec_l6Up.l1]; rw [if_neg zz1g]; exact h k zz1g
 | succ d ih =>
  intro i out more h1 hd hp; have hil : i < ps.length := by omega
  have hlen := hp.ui.len; have hmem : rd_L1 ps i ∈ ps := by unfold rd_L1; rw [Int.toNat_natCast, List.getD_eq_getElem?_getD, List.getElem?_eq_getElem hil]; exact List.getElem_mem hil
  have ew : wrap64 ((i : Int) + 1) = ((i + 1 : Nat) : Int) := wsuccL hil hpl; have eg : ps.getD i [] = rd_L1 ps i := rfl; obtain ⟨y2, y0, y1⟩ := hps _ hmem; have skip : (rd (rd_L1 ps i) 1 ∈ out → rd (rd_L1 ps i) 0 ∈ out) → Ev (fun k => spec_l6Up.l1 k ps out more ps ps.length (wrap64 ((i : Int) + 1))) X := fun hc => by
   rw [ew]; exact ih (i + 1) out more zz1g zz1g ⟨hp.ui, hp.le, hp.lt, fun hm p hf => (fstOf_succ hf).elim (hp.cl hm p) (fun e => by rw [e, eg]; exact hc)⟩
  have put : rd (rd_L1 ps i) 0 ∉ out → rd (rd_L1 ps i) 1 ∈ out → Ev (fun k => spec_l6Up.l1 k ps (putI out (rd (rd_L1 ps i) 0)) true ps ps.length (wrap64 ((i : Int) + 1))) X := fun hn h1 => by
   rw [ew]; have hl := putI_len_new out _ hn; have := hp.le; exact ih (i + 1) _ true zz1g zz1g ⟨hp.ui.put hmem y0 h1, zz1g, fun _ => by omega, fun e => by cases e⟩
  obtain ⟨y, hy⟩ : ∃ y, y = rd_L1 ps i := ⟨_, rfl⟩
  rw [← hy] at y2 skip put; by_cases c1 : rd y 1 ∈ out
  · by_cases c0 : rd y 0 ∈ out
    · obtain ⟨K, h⟩ := skip (fun _ => c0); dsimp only at h; refine ⟨K + 100, fun k hk => ?_⟩; dsimp only; obtain ⟨k, rfl⟩ : ∃ m, k = m + 1 := ⟨k - 1, zz1g⟩
      simp only [spec_l6Up.l1]; rw [if_pos zz1g, if_pos zz1g, if_pos zz1g, ← hy, if_pos zz1g, has_eq out _ zz1g k zz1g, has_eq out _ zz1g k zz1g, decide_eq_true c1, decide_eq_true c0]; simp only [Option.bind_some]; rw [if_pos trivial, if_pos zz1g, if_pos trivial]; exact h k zz1g
    · obtain ⟨K, h⟩ := put c0 c1; dsimp only at h; refine ⟨K + 100, fun k hk => ?_⟩; dsimp only; obtain ⟨k, rfl⟩ : ∃ m, k = m + 1 := ⟨k - 1, zz1g⟩
      simp only [spec_l6Up.l1]; rw [if_pos zz1g, if_pos zz1g, if_pos zz1g, ← hy, if_pos zz1g, has_eq out _ zz1g k zz1g, has_eq out _ zz1g k zz1g, decide_eq_true c1, decide_eq_false c0, put_eq out _ zz1g k zz1g]; simp only [Option.bind_some]; rw [if_pos trivial, if_pos zz1g, if_neg zz1f]; exact h k zz1g
  · obtain ⟨K, h⟩ := skip (fun e => absurd e c1); dsimp only at h; refine ⟨K + 100, fun k hk => ?_⟩; dsimp only; obtain ⟨k, rfl⟩ : ∃ m, k = m + 1 := ⟨k - 1, zz1g⟩
    simp only [spec_l6Up.l1]; rw [if_pos zz1g, if_pos zz1g, if_pos zz1g, ← hy, if_pos zz1g, has_eq out _ zz1g k zz1g, decide_eq_false c1]; simp only [Option.bind_some]; rw [if_neg zz1f]; exact h k zz1g
theorem sup_l0 (X : List Int) (hX : UpI X) (hXm : ∀ x, x ∈ X ↔ UpR ps (· ∈ es) x) (d : Nat) : ∀ out : List Int, UuI m n ps es out → m + n - out.length ≤ d →
 Ev (fun k => spec_l6Up.l0 k ps out true) X := by
 induction d with
 | zero =>
  intro out h hd; refine (Ev.step (f := fun k => spec_l6Up.l1 k ps out false ps ps.length 0) (fun k => by simp only [spec_l6Up.l0]; rw [if_pos trivial]) ?_); refine sup_l1 hn hm hps hpl X out.length (fun out2 m2 h2 => ?_) ps.length 0 out false (Nat.zero_le _) rfl ⟨h, Nat.le_refl _, (fun e => by cases e), fun _ l ⟨j, hj, _⟩ => by omega⟩; cases m2 with
  | true => have a1 := h2.lt rfl; have a2 := h2.ui.len; omega
  | false =>
   refine ⟨1, fun k hk => ?_⟩; dsimp only; obtain ⟨k, rfl⟩ : ∃ m, k = m + 1 := ⟨k - 1, zz1g⟩
   simp only [spec_l6Up.l0]; rw [if_neg zz1f, upI_ext h2.ui.up hX fun x => (h2.ui.fin (fun p hp => h2.cl rfl p (fstOf_all hp (Nat.le_refl _))) x).trans (hXm x).symm]
 | succ d ih =>
  intro out h hd; refine (Ev.step (f := fun k => spec_l6Up.l1 k ps out false ps ps.length 0) (fun k => by simp only [spec_l6Up.l0]; rw [if_pos trivial]) ?_); refine sup_l1 hn hm hps hpl X out.length (fun out2 m2 h2 => ?_) ps.length 0 out false (Nat.zero_le _) rfl ⟨h, Nat.le_refl _, (fun e => by cases e), fun _ l ⟨j, hj, _⟩ => by omega⟩; cases m2 with
  | true => exact ih out2 h2.ui (by have a1 := h2.lt rfl; omega)
  | false =>
   refine ⟨1, fun k hk => ?_⟩; dsimp only; obtain ⟨k, rfl⟩ : ∃ m, k = m + 1 := ⟨k - 1, zz1g⟩
   simp only [spec_l6Up.l0]; rw [if_neg zz1f, upI_ext h2.ui.up hX fun x => (h2.ui.fin (fun p hp => h2.cl rfl p (fstOf_all hp (Nat.le_refl _))) x).trans (hXm x).symm]
theorem l6Up_ev (hup : UpI es) (hrg : ∀ x, x ∈ es → -(m : Int) ≤ x ∧ x < n) (X : List Int) (hX : UpI X) (hXm : ∀ x, x ∈ X ↔ UpR ps (· ∈ es) x) : Ev (fun k => spec_l6Up.f k ps es) X := by
 have hu : UuI m n ps es es := ⟨hup, hrg, fun x h => h, fun x h => .base h⟩
 have hl := hu.len; obtain ⟨K, h⟩ := sup_l0 hn hm hps hpl X hX hXm (m + n) es hu zz1g; dsimp only at h; refine ⟨K, fun k hk => ?_⟩; dsimp only; unfold spec_l6Up.f; rw [own_eq es zz1g]; exact h k hk
omit hn hm hps hpl in
theorem upI_cons_neg {x : Int} (hx : x < 0) {l : List Int} (h : UpI l) (h0 : ∀ z, z ∈ l → 0 ≤ z) : UpI (x :: l) := List.pairwise_cons.2 ⟨fun z hz => by have := h0 z hz; omega, h⟩
omit hn hm hps hpl in
def upU (n : Nat) (ps : List (List Int)) (x : Int) : List Int := (if x < 0 then [x] else []) ++ rowU n ps x
omit hn hm hpl in
theorem mem_upU {x : Int} (hx : x < n) (z : Int) : z ∈ upU n ps x ↔ UpR ps (· = x) z := by
 unfold upU; rw [List.mem_append, mem_rowU hps hx]; constructor
 · rintro (h | h)
   · by_cases c : x < 0
     · rw [if_pos c, List.mem_singleton] at h; exact .base h
     · rw [if_neg c] at h; cases h
   · exact h.2
 · intro h; rcases upR_lt hps h with e | e
   · subst e; by_cases c : z < 0
     · left; rw [if_pos c]; exact List.mem_singleton.2 rfl
     · exact .inr ⟨zz1g, h⟩
   · exact .inr ⟨e.1, h⟩
omit hn hm hpl in
theorem upU_up {x : Int} (hx : x < n) : UpI (upU n ps x) := by
 unfold upU; by_cases c : x < 0
 · rw [if_pos c]; exact upI_cons_neg c (rowU_up n ps x) fun z hz => ((mem_rowU hps hx z).1 hz).1
 · rw [if_neg c]; exact rowU_up n ps x
theorem l6Up_one {x : Int} (hx : -(m : Int) ≤ x ∧ x < n) : Ev (fun k => spec_l6Up.f k ps [x]) (upU n ps x) :=
 l6Up_ev hn hm hps hpl (List.pairwise_singleton _ _) (fun z hz => by rw [List.mem_singleton.1 hz]; exact hx) _ (upU_up hps hx.2) (fun z => (mem_upU hps hx.2 z).trans ⟨fun h => h.mono fun z e => List.mem_singleton.2 e, fun h => h.mono fun z e => List.mem_singleton.1 e⟩)
end
theorem l6Row_loop (l : List Int) (hl : l.length < 17592186044416) (d : Nat) : ∀ (k i : Nat) (out : List Int), i ≤ l.length → l.length - i = d → d < k → out.length + d < 17592186044416 →
 spec_l6Row.l0 k out l l.length i = some (out ++ (l.drop i).filter fun z => decide (0 ≤ z)) := by
 induction d with
 | zero =>
  intro k i out h1 hd hk ho; obtain ⟨k, rfl⟩ : ∃ m, k = m + 1 := ⟨k - 1, zz1g⟩
  simp only [spec_l6Row.l0]; rw [if_neg zz1g, List.drop_of_length_le zz1g]; simp
 | succ d ih =>
  intro k i out h1 hd hk ho; obtain ⟨k, rfl⟩ : ∃ m, k = m + 1 := ⟨k - 1, zz1g⟩
  have ed : l.drop i = rd l i :: l.drop (i + 1) := getD_drop l i 0 zz1g; simp only [spec_l6Row.l0]; rw [if_pos zz1g, if_pos zz1g, if_pos zz1g, wsuccL (show i < l.length by omega) zz1g]; by_cases c : 0 ≤ rd l i
  · rw [if_pos c, if_pos zz1g, ih k (i + 1) _ zz1g zz1g zz1g (by rw [List.length_append]; simp; omega), ed, List.filter_cons_of_pos (by simpa using c)]; simp
  · rw [if_neg c, ih k (i + 1) _ zz1g zz1g zz1g zz1g, ed, List.filter_cons_of_neg (by simpa using c)]
theorem pairsU_in {n : Nat} {toks : Int} {ps os : List (List Int)} {es : List Int} (ok : OkB (n : Int) toks ps os es) : PairsIn n (pairsU n es os ps) := fun p hp => by
 obtain ⟨e1, e2, e3⟩ := pairsU_ok ok hp; exact ⟨e1, e2, e3.2⟩
theorem l6Row_ev {n : Nat} {toks : Int} {ps os : List (List Int)} {es : List Int} {fs : List (List Int)} (ok : OkB (n : Int) toks ps os es) (hp : ps.length ≤ 1048576) (ho : os.length ≤ 1048576) {x : Int} (hx : -toks ≤ x ∧ x < n) : Ev (fun k => spec_l6Row.f k (n : Int) toks ps os es fs x) (rowU n (pairsU n es os ps) x) := by
 have h40 := ok.n; have h4 := ok.t; have hP := pairsU_in ok; have hPl := pairsU_len n es os ps; obtain ⟨K, h⟩ := l6Pairs_ev (fs := fs) ok hp ho; obtain ⟨K2, h2⟩ := l6Up_one (m := toks.toNat) zz1g zz1g hP zz1g (x := x) zz1g; dsimp only at h h2; have hlen : (upU n (pairsU n es os ps) x).length ≤ n + 1 := by
  have := rowU_len hP hx.2; unfold upU; rw [List.length_append]; by_cases c : x < 0
  · rw [if_pos c]; simp; omega
  · rw [if_neg c]; simp; omega
 have ef : ((upU n (pairsU n es os ps) x).filter fun z => decide (0 ≤ z)) = rowU n (pairsU n es os ps) x := by
  unfold upU; rw [List.filter_append, List.filter_eq_self.2 fun z hz => decide_eq_true ((mem_rowU hP hx.2 z).1 hz).1]; by_cases c : x < 0
  · rw [if_pos c, List.filter_cons_of_neg (by simpa using c)]; simp
  · rw [if_neg c]; simp
 refine ⟨K + K2 + (n + 10), fun k hk => ?_⟩; dsimp only; unfold spec_l6Row.f; rw [h k zz1g]; simp only [Option.bind_some]; rw [h2 k zz1g]; simp only [Option.bind_some]; have := l6Row_loop (upU n (pairsU n es os ps) x) zz1g _ k 0 [] (Nat.zero_le _) rfl zz1g (by simp; omega); rw [List.drop_zero, List.nil_append, ef] at this; exact this
end Go.Proofs.YtkocahlifffgjaaGreat.P
namespace Go.Proofs.YtkocahlifffgjaaGreat.P
open Go.RowKit Go.Proofs.YtkocahlifffgjaaGreatW.PrintWords Go.Proofs.YtkocahlifffgjaaGreatW.PrintLast Go.Proofs.YtkocahlifffgjaaGreatW.PrintMore
attribute [local go_sem] max2_int min2_int max_two min_two max_three min_three max_four min_four
set_option linter.unusedVariables false
set_option linter.unusedSimpArgs false
def spec_l5Symbol.f (ae : Int) (al : Int) (ab : List (List Int)) (af : List (List Int)) (ai : List Int) (ah : List (List Int)) (a1 : Int) : Option (Bool) := (spec_l1In.f a1 (wrap64 (-al)) (wrap64 (ae - 1))).bind fun aH => (some aH)
set_option maxHeartbeats 8000000 in
set_option maxRecDepth 100000 in
theorem spec_l5Symbol.calls (ae : Int) (al : Int) (az : Option Addr) (aq : Nat) (ab : List (List Int)) (ay : Option Addr) (av : Nat) (af : List (List Int)) (ar : Option Addr) (au : Nat) (ai : List Int) (aw : Option Addr) (ax : Nat) (ah : List (List Int)) (a1 : Int) (r : Bool) (w : World) (bX : Kd.C (Kd.slice 3 (Kd.int .i64)) w az ab.length ab) (bY : ab.length ≤ aq) (bZ : Kd.C (Kd.slice 3 (Kd.int .i64)) w ay af.length af) (b0 : af.length ≤ av) (b1 : Kd.C (Kd.int .i64) w ar ai.length ai) (b2 : ai.length ≤ au) (b3 : Kd.C (Kd.slice 3 (Kd.int .i64)) w aw ah.length ah) (b4 : ah.length ≤ ax) (h : spec_l5Symbol.f ae al ab af ai ah a1 = some r) :
 Calls Tryz.prog 79 #[.agg #[.int .i64 ae, .int .i64 al, .slice az ab.length aq, .slice ay af.length av, .slice ar ai.length au, .slice aw ah.length ax], .int .i64 a1] w fun e w' => e = .returned (.bool r) ∧ Below w.heap.size w w' := by
 have hu32 := Tryz.underlying32; have bs := zA bX; have bw := zA bY; clear bX bY; have bt := zA bZ; have bz := zA b0; clear bZ b0; have bA := zA b1; have bB := zA b2; clear b1 b2; have bC := zA b3; have bI := zA b4; clear b3 b4; have HB := zA (Below.refl w.heap.size w); have H : ((spec_l1In.f a1 (wrap64 (-al)) (wrap64 (ae - 1))).bind fun aH => (some aH)) = some r := h; clear h; replace H := Option.bind_eq_some_iff.mp H; obtain ⟨aH, g5, H⟩ := H; have A3 := zA g5; clear g5; obtain rfl := Option.some.inj H; go_enter Tryz.func79, Tryz.ntmps79; go_wp2_with (first | ((with_reducible refine gate_dst (N := 2) rfl ?_); refine box_event ?hg (N := 2) ?hd (cs := #[.int .i64 ae, .int .i64 al, .slice az ab.length aq, .slice ay af.length av, .slice ar ai.length au, .slice aw ah.length ax]) (t := 32) ?hr ?_; (case hd => rfl); (case hg => rfl); (case hr => first | (go_simp; done) | (go_simp; rfl)); intro ad hg w4 hbox hb; have aa := zA (hbox); have bD := zA ((by rw [hg]; exact (zF (zz0q HB)) : w.heap.size ≤ ad)); have ac := zA ((by rw [hg]; exact (zF (zz0q HB)) : w.heap.size ≤ ad)); replace HB := zA (zG (zz0q HB) hb); clear hb hbox hg; obtain ⟨hcz5_0, hcz5_1, hcz5_2, hcz5_3, hcz5_4, hcz5_5⟩ := zk6 aa.out; have hfz5_5 := zL aa.out 5) | ((with_reducible refine gate_callee (f := 41) rfl ?_); refine goesL_ (some 12) rfl rfl Tryz.func41 zz1c rfl #[.int .i64 a1, .int .i64 (wrap64 (-al)), .int .i64 (wrap64 (ae - 1))] rfl zz0d ?_; (with_reducible refine (spec_l1In.calls a1 (wrap64 (-al)) (wrap64 (ae - 1)) aH _ A3.out).mono ?_); rintro e w' ⟨rfl, ⟨nd, rfl⟩⟩; refine ⟨_, rfl, ?_⟩)); go_ret; exact ⟨zz0r, zz0h HB ac⟩
end Go.Proofs.YtkocahlifffgjaaGreat.P
namespace Go.Proofs.YtkocahlifffgjaaGreat.P
open Go.RowKit Go.Proofs.YtkocahlifffgjaaGreatW.PrintWords Go.Proofs.YtkocahlifffgjaaGreatW.PrintLast Go.Proofs.YtkocahlifffgjaaGreatW.PrintMore
set_option linter.unusedVariables false
set_option linter.unusedSimpArgs false
theorem l1In_eq (a b c : Int) : spec_l1In.f a b c = some (decide (b ≤ a ∧ a ≤ c)) := by
 unfold spec_l1In.f; by_cases h : a ≥ b
 · rw [if_pos h]; congr 2; simp; omega
 · rw [if_neg h]; simp; omega
theorem l5Symbol_eq (a0 a1 : Int) (l2 l3 : List (List Int)) (l4 : List Int) (l5 : List (List Int)) (x : Int) : spec_l5Symbol.f a0 a1 l2 l3 l4 l5 x = some (symB a0 a1 x) := by
 unfold spec_l5Symbol.f symB; rw [l1In_eq]; rfl
theorem l5Less_loop (a b : List Int) (hl : a.length = b.length) (hb : a.length ≤ 9223372036854775807) (d : Nat) : ∀ (k i : Nat), i ≤ a.length → a.length - i = d → d < k →
 spec_l5Less.l0 k a b a.length i = some (decide (cmpL (a.drop i) (b.drop i) < 0)) := by
 induction d with
 | zero =>
  intro k i h1 hd hk; obtain ⟨k, rfl⟩ : ∃ m, k = m + 1 := ⟨k - 1, zz1g⟩
  simp only [spec_l5Less.l0]; rw [if_neg zz1g, List.drop_of_length_le (show a.length ≤ i by omega), List.drop_of_length_le (show b.length ≤ i by omega)]; rfl
 | succ d ih =>
  intro k i h1 hd hk; obtain ⟨k, rfl⟩ : ∃ m, k = m + 1 := ⟨k - 1, zz1g⟩
  simp only [spec_l5Less.l0]; have ea : a.drop i = rd a i :: a.drop (i + 1) := getD_drop a i 0 zz1g; have eb : b.drop i = rd b i :: b.drop (i + 1) := getD_drop b i 0 zz1g; rw [if_pos zz1g, if_pos zz1g, if_pos zz1g, if_pos zz1g, ea, eb]; by_cases h3 : rd a i = rd b i
  · rw [if_pos h3, show wrap64 ((i : Int) + 1) = ((i + 1 : Nat) : Int) by unfold wrap64; omega, ih k (i + 1) zz1g zz1g zz1g]; simp [cmpL, h3]
  · rw [if_neg h3]; by_cases h4 : rd a i < rd b i
    · simp [cmpL, h4]
    · simp [cmpL, h4, show rd b i < rd a i by omega]
theorem l5Less_eq (a b : List Int) (hl : a.length = b.length) (hb : a.length ≤ 9223372036854775807) (k : Nat) (hk : a.length < k) : spec_l5Less.f k a b = some (decide (cmpL a b < 0)) := by
 unfold spec_l5Less.f; have := l5Less_loop a b hl hb a.length k 0 zz1g zz1g hk; simpa using this
def spec_l5Rising.f (a0_0 a0_1 : Int) (l0_2 l0_3 : List (List Int)) (l0_4 : List Int) (l0_5 l1 : List (List Int)) (a2 : Int) : Option Bool := if 1 ≤ a2 then some (listsF a0_0 a0_1 a2 none l1) else none
set_option maxHeartbeats 4000000 in
set_option maxRecDepth 100000 in
theorem spec_l5Rising.calls (a0_0 a0_1 : Int) (A0_2 : Option Addr) (c0_2 : Nat) (l0_2 : List (List Int)) (A0_3 : Option Addr) (c0_3 : Nat) (l0_3 : List (List Int)) (A0_4 : Option Addr) (c0_4 : Nat) (l0_4 : List Int) (A0_5 : Option Addr) (c0_5 : Nat) (l0_5 : List (List Int)) (A1 : Option Addr) (c1 : Nat) (l1 : List (List Int)) (a2 : Int) (r : Bool) (w : World)
 (hr0_2 : Kd.C (Kd.slice 3 (Kd.int .i64)) w A0_2 l0_2.length l0_2) (hc0_2 : l0_2.length ≤ c0_2) (hr0_3 : Kd.C (Kd.slice 3 (Kd.int .i64)) w A0_3 l0_3.length l0_3) (hc0_3 : l0_3.length ≤ c0_3) (hr0_4 : Kd.C (Kd.int .i64) w A0_4 l0_4.length l0_4) (hc0_4 : l0_4.length ≤ c0_4) (hr0_5 : Kd.C (Kd.slice 3 (Kd.int .i64)) w A0_5 l0_5.length l0_5) (hc0_5 : l0_5.length ≤ c0_5) (hr1 : Kd.C (Kd.slice 3 (Kd.int .i64)) w A1 l1.length l1) (hc1 : l1.length ≤ c1)
 (h : spec_l5Rising.f a0_0 a0_1 l0_2 l0_3 l0_4 l0_5 l1 a2 = some r) :
 Calls Tryz.prog 64 #[.agg #[.int .i64 a0_0, .int .i64 a0_1, .slice A0_2 l0_2.length c0_2, .slice A0_3 l0_3.length c0_3, .slice A0_4 l0_4.length c0_4, .slice A0_5 l0_5.length c0_5], .slice A1 l1.length c1, .int .i64 a2] w fun e w' => e = .returned (.bool r) ∧ Below w.heap.size w w' := by
 have hu := Tryz.underlying32; have ha2 : 1 ≤ a2 := by
  by_cases h2 : 1 ≤ a2
  · exact h2
  · unfold spec_l5Rising.f at h; rw [if_neg h2] at h; cases h
 unfold spec_l5Rising.f at h; rw [if_pos ha2] at h; obtain rfl := Option.some.inj h; clear h; have SY := zA fun (x : Int) (W : World) (hW : Below w.heap.size w W) => spec_l5Symbol.calls a0_0 a0_1 A0_2 c0_2 l0_2 A0_3 c0_3 l0_3 A0_4 c0_4 l0_4 A0_5 c0_5 l0_5 x (symB a0_0 a0_1 x) W (zS hr0_2 hW) hc0_2 (zS hr0_3 hW) hc0_3 (zS hr0_4 hW) hc0_4 (zS hr0_5 hW) hc0_5 (l5Symbol_eq a0_0 a0_1 l0_2 l0_3 l0_4 l0_5 x)
 clear hr0_2 hr0_3 hr0_4 hr0_5; have hml : l1.length ≤ 9223372036854775807 := hr1.2.1; have HRL := zA hr1; clear hr1; have HB := zA (Below.refl w.heap.size w); have HA2 := zA ha2; go_enter Tryz.func64, Tryz.ntmps64; go_wp2_with (first | ((with_reducible refine gate_dst (N := 3) rfl ?_); refine box_event ?hg (N := 3) ?hd (cs := #[.int .i64 a0_0, .int .i64 a0_1, .slice A0_2 l0_2.length c0_2, .slice A0_3 l0_3.length c0_3, .slice A0_4 l0_4.length c0_4, .slice A0_5 l0_5.length c0_5]) (t := 32) ?hr ?_; (case hd => rfl); (case hg => rfl); (case hr => first | (go_simp; done) | (go_simp; rfl)); intro gb hg w1 hbox hb; have n0_ := zA (zG HB.out hb); have n1_ := zA hbox; clear HB; have HB := n0_; have BK := n1_; clear n0_ n1_ hb hbox hg) | go_in); go_loopg [13] l1.length (fun gg s13 wr => ∃ kk : Nat, kk ≤ l1.length ∧ l1.length - kk ≤ gg ∧ s13 = .int .i64 kk ∧ Aside0 (listsF a0_0 a0_1 a2 none l1 = listsF a0_0 a0_1 a2 (prevL l1 kk) (l1.drop kk)) ∧ Aside0 (∀ z, prevL l1 kk = some z → (z.length : Int) = a2) ∧ Aside0 (wr.heap[gb]? = some (.cells #[.int .i64 a0_0, .int .i64 a0_1, .slice A0_2 l0_2.length c0_2, .slice A0_3 l0_3.length c0_3, .slice A0_4 l0_4.length c0_4, .slice A0_5 l0_5.length c0_5] 32 (0, 0))) ∧ Aside0 (Below w.heap.size w wr))
 case atStart => exact ⟨0, Nat.zero_le _, zz1g, rfl, ⟨rfl⟩, ⟨fun z h => by cases h⟩, BK, HB⟩
 case round =>
  clear BK HB; obtain ⟨kk, hkk, hg, rfl, R, LN, BK, HB⟩ := hrel; by_cases hlt : kk < l1.length
  · have hd : decide (kk < l1.length) = true := decide_eq_true hlt; obtain ⟨ad, A3, c3, e, hx0, hl3, hi3⟩ := at_L1 HRL.out (kk : Int) zz1g zz1g; subst e; have hx1 : wr.cell? (ad.add kk) = some (.slice A3 (rd_L1 l1 kk).length c3) := (HB.out.cell (World.block_lt_of_cell? w _ zz19)).trans zz19; have OKD := zA (show listsF a0_0 a0_1 a2 (prevL l1 kk) (l1.drop kk) = (rowOk a0_0 a0_1 a2 (rd_L1 l1 kk) && ((match prevL l1 kk with | none => true | some z => decide (cmpL z (rd_L1 l1 kk) < 0)) && listsF a0_0 a0_1 a2 (prevL l1 (kk + 1)) (l1.drop (kk + 1)))) by rw [getD_drop l1 kk [] hlt]; cases kk <;> rfl); have HI := zA (zS hi3 HB.out); have HL := zA hl3; have hmy : (rd_L1 l1 kk).length ≤ 9223372036854775807 := hi3.2.1; have L := zA hlt; have PRV := zA (show ∀ m, kk = m + 1 → prevL l1 kk = some (rd_L1 l1 m) from fun m hm => by rw [hm]; rfl); have PRN := zA (show prevL l1 (kk + 1) = some (rd_L1 l1 kk) from rfl); clear hx0 hi3 hl3; generalize rd_L1 l1 kk = y at hx1 OKD HI HL hmy PRN
    go_upto_region 4 with fail
    have q0 := Later.cell (w := wr) (a := ⟨gb, 0, none⟩) (v := .int .i64 a0_0) ((zK BK.out 0).trans rfl); have q1 := Later.cell (w := wr) (a := ⟨gb, 1, none⟩) (v := .int .i64 a0_1) ((zK BK.out 1).trans rfl); clear hx1; by_cases h1 : (y.length : Int) = a2
    · have e1 : ((y.length : Int) != a2) = false := by rw [h1]; simp
      have hpos : 0 < y.length := by have := HA2.out; omega
      obtain ⟨ay, e, hy0⟩ := Kd.at_int HI.out 0 zz1g zz1g; subst e; rw [show ((0 : Int)).toNat = 0 from rfl, Addr.add_zero'] at hy0; have q2 := Later.cell hy0; have hlp : (0 < y.length) = True := eq_true hpos; clear hy0; have H1x := zA h1; clear h1; by_cases h2 : 0 ≤ rd y 0 ∧ rd y 0 ≤ wrap64 (a0_0 - 1)
      · have J1 := zA (show spec_l1In.f (rd y 0) 0 (wrap64 (a0_0 - 1)) = some true by rw [l1In_eq, decide_eq_true h2]); have H2x := zA h2; clear h2; obtain ⟨i0, hi0, _, hsz0, _⟩ := info_parts info3; have hcut0 := cut_from (P := Tryz.prog) 23 3 .i64 Tryz.underlying23 hi0 1 hsz0 (some ay) y.length c3 1 zz1g zz1g; have HI90 := Kd.C_drop (m := 1) HI.out zz1g HL.out; obtain ⟨A9, hA9⟩ : ∃ A9 : Option Addr, A9 = (if c3 = 1 then some ay else (some ay).map (·.add (1 * 1))) := ⟨_, rfl⟩
        obtain ⟨t, ht⟩ : ∃ t, t = y.drop 1 := ⟨_, rfl⟩
        have htl : t.length = y.length - 1 := by rw [ht, List.length_drop]
        have hcut : ∀ W : World, (Instr.slice 23 (.slice (some ay) y.length c3) (some (.int .i64 1)) none none).run Tryz.prog W = .ok (.slice A9 t.length (c3 - 1)) W := fun W => by rw [hcut0 W, hA9, htl]; rfl
        have HI9w := zA (show Kd.C (Kd.int .i64) wr A9 t.length t by rw [hA9, ht]; exact HI90); have hmt : t.length ≤ 9223372036854775807 := by omega
        have NOS := zA (show ∀ i : Nat, i < t.length → symB a0_0 a0_1 (t.getD i 0) = false → rowOk a0_0 a0_1 a2 y = false from fun i hi hs => by
         unfold rowOk; rw [← ht]; have : (t.any fun z => !symB a0_0 a0_1 z) = true := List.any_eq_true.2 ⟨t.getD i 0, by rw [List.getD_eq_getElem?_getD, List.getElem?_eq_getElem hi]; exact List.getElem_mem hi, by rw [hs]; rfl⟩; rw [this]; simp)
        have YESS := zA (show (∀ i : Nat, i < t.length → symB a0_0 a0_1 (t.getD i 0) = true) → rowOk a0_0 a0_1 a2 y = true from fun hs => by
         unfold rowOk; rw [← ht, decide_eq_true H1x.out, decide_eq_true H2x.out]; have : (t.any fun z => !symB a0_0 a0_1 z) = false := by
          rw [List.any_eq_false]; intro z hz; obtain ⟨i, hi, rfl⟩ := List.getElem_of_mem hz; have := hs i hi; rw [List.getD_eq_getElem?_getD, List.getElem?_eq_getElem hi] at this; simpa using this
         rw [this]; rfl)
        clear hcut0 HI90 hA9 hi0 hsz0 ht htl; cases kk with
        | zero =>
         refine wp_region_later zz1c zz1c ?_; (repeat (go_big_quiet_step (first | (go_at_call 41; with_reducible exact Later.callD (spec_l1In.calls (rd y 0) 0 (wrap64 (a0_0 - 1)) true _ J1.out))))); refine wpQuiet_nil ?_; intro w4_ hw4; obtain ⟨⟨w4, hb4⟩, hw4⟩ := hw4; subst hw4; (try dsimp only); have B4 := zA hb4; clear hb4; have n0_ := zA (zM BK.out B4.out); have n1_ := zA (zG HB.out B4.out); have HI9 := zA (zS HI9w.out B4.out); clear BK HB B4 q0 q1 q2 HI9w; have BK := n0_; have HB := n1_; clear n0_ n1_ hd; go_wp2; go_loopg [49] t.length (fun gg s49 wr => ∃ jj : Nat, jj ≤ t.length ∧ t.length - jj ≤ gg ∧ s49 = .int .i64 jj ∧ Aside0 (∀ i, i < jj → symB a0_0 a0_1 (t.getD i 0) = true) ∧ Aside0 (wr.heap[gb]? = some (.cells #[.int .i64 a0_0, .int .i64 a0_1, .slice A0_2 l0_2.length c0_2, .slice A0_3 l0_3.length c0_3, .slice A0_4 l0_4.length c0_4, .slice A0_5 l0_5.length c0_5] 32 (0, 0))) ∧ Aside0 (Kd.C (Kd.int .i64) wr A9 t.length t) ∧ Aside0 (Below w.heap.size w wr))
         case atStart => exact ⟨0, Nat.zero_le _, zz1g, rfl, ⟨fun i hi => absurd hi (Nat.not_lt_zero _)⟩, BK, HI9, HB⟩
         case round =>
          clear BK HB HI9; obtain ⟨jj, hjj, hg2, rfl, S, BK, HI9, HB⟩ := hrel; by_cases hlt2 : jj < t.length
          · have hd2 : decide (jj < t.length) = true := decide_eq_true hlt2; obtain ⟨ay9, e, hy9⟩ := Kd.at_int HI9.out (jj : Int) zz1g zz1g; subst e; have hy8 : wr.cell? (ay9.add jj) = some (.int .i64 (rd t jj)) := by simpa using hy9
            have hx0 : wr.cell? ⟨gb, 0, none⟩ = some (.int .i64 a0_0) := (zK BK.out 0).trans rfl; have hx1 : wr.cell? ⟨gb, 1, none⟩ = some (.int .i64 a0_1) := (zK BK.out 1).trans rfl; have hx2 : wr.cell? ⟨gb, 2, none⟩ = some (.slice A0_2 l0_2.length c0_2) := (zK BK.out 2).trans rfl; have hx3 : wr.cell? ⟨gb, 3, none⟩ = some (.slice A0_3 l0_3.length c0_3) := (zK BK.out 3).trans rfl; have hx4 : wr.cell? ⟨gb, 4, none⟩ = some (.slice A0_4 l0_4.length c0_4) := (zK BK.out 4).trans rfl; have hx5 : wr.cell? ⟨gb, 5, none⟩ = some (.slice A0_5 l0_5.length c0_5) := (zK BK.out 5).trans rfl; have L2 := zA hlt2; clear hy9; have CS := SY.out (rd t jj) wr HB.out; have SE := zA (show t.getD jj 0 = rd t jj from rfl); generalize rd t jj = x at hy8 CS SE; cases hs : symB a0_0 a0_1 x with
            | true =>
             rw [hs] at CS; have SX := zA hs; clear hs; go_wp2_with fail; refine CS.mono ?_; rintro e w' ⟨rfl, hb'⟩; clear CS hd2; go_wp2
             go_roundg (t.length - (jj + 1))
             case measure => have := L2.out; omega
             case rel => exact ⟨jj + 1, zz18 L2, zz1g, zz1e, ⟨fun (i : Nat) (hi : i < jj + 1) => if ej : i = jj then (by subst ej; rw [SE.out]; exact SX.out) else S.out i (by have := hi; have := ej; omega)⟩, ⟨zM BK.out hb'⟩, ⟨zS HI9.out hb'⟩, ⟨zG HB.out hb'⟩⟩
            | false =>
             rw [hs] at CS; have J4 := zA (show listsF a0_0 a0_1 a2 none l1 = false by rw [R.out, OKD.out, NOS.out jj L2.out (by rw [SE.out]; exact hs), Bool.false_and]); clear hs; go_wp2_with fail; refine CS.mono ?_; rintro e w' ⟨rfl, hb'⟩; clear CS hd2 hlt2; go_wp2; go_ret; exact ⟨zz1a J4, zG HB.out hb'⟩
          · have hd2 : decide (jj < t.length) = false := decide_eq_false hlt2; have RW := zA (YESS.out (fun i hi => S.out i zz1g)); have J5 := zA (show listsF a0_0 a0_1 a2 none l1 = listsF a0_0 a0_1 a2 (prevL l1 (0 + 1)) (l1.drop (0 + 1)) by rw [R.out, OKD.out, RW.out]; rfl); clear hlt2; go_wp2
            go_roundg (l1.length - (0 + 1))
            case measure => have := L.out; omega
            case rel => exact ⟨0 + 1, zz18 L, zz1g, zz1e, J5, ⟨fun z_ hz_ => by rw [PRN.out] at hz_; cases hz_; exact H1x.out⟩, BK, HB⟩
        | succ m =>
         obtain ⟨ad2, A8, c8, e, hz0, hl8, hi8⟩ := at_L1 HRL.out (m : Int) zz1g zz1g; cases e; have q3 := Later.cell (w := wr) (a := ad.add m) (v := .slice A8 (rd_L1 l1 m).length c8) ((HB.out.cell (World.block_lt_of_cell? w _ (by simpa using hz0))).trans (by simpa using hz0)); have HZ := zA (zS hi8 HB.out); have HZL := zA hl8; have hmz := zA hi8.2.1; have PV2 := zA (PRV.out m rfl); have LZ := zA (LN.out _ PV2.out); rw [PV2.out] at OKD; clear hz0 hl8 hi8 PRV LN; generalize rd_L1 l1 m = z at q3 HZ HZL hmz OKD PV2 LZ; have OK2 := zA (show listsF a0_0 a0_1 a2 (some z) (l1.drop (m + 1)) = (rowOk a0_0 a0_1 a2 y && (decide (cmpL z y < 0) && listsF a0_0 a0_1 a2 (prevL l1 (m + 1 + 1)) (l1.drop (m + 1 + 1)))) from OKD.out); clear OKD; have OKD := OK2; clear OK2; have J6 := zA (l5Less_eq z y (zz15 LZ H1x) hmz.out (z.length + 1) zz1g); generalize decide (cmpL z y < 0) = cz at J6 OKD; have CM := fun (W : World) (hW : Below wr.heap.size wr W) => spec_l5Less.calls (z.length + 1) A8 c8 z (some ay) c3 y cz W (zS HZ.out hW) HZL.out (zS HI.out hW) HL.out J6.out
         cases cz with
         | true =>
          refine wp_region_later zz1c zz1c ?_; (repeat (go_big_quiet_step (first | (go_at_call 41; with_reducible exact Later.callD (spec_l1In.calls (rd y 0) 0 (wrap64 (a0_0 - 1)) true _ J1.out)) | (go_at_call 78; with_reducible exact Later.callD (CM _ (Later.below _)))))); refine wpQuiet_nil ?_; intro w4_ hw4; obtain ⟨⟨w4, hb4⟩, hw4⟩ := hw4; subst hw4; (try dsimp only); have B4 := zA hb4; clear hb4; clear CM q3; have n0_ := zA (zM BK.out B4.out); have n1_ := zA (zG HB.out B4.out); have HI9 := zA (zS HI9w.out B4.out); clear BK HB B4 q0 q1 q2 HI9w; have BK := n0_; have HB := n1_; clear n0_ n1_ hd; go_wp2; go_loopg [49] t.length (fun gg s49 wr => ∃ jj : Nat, jj ≤ t.length ∧ t.length - jj ≤ gg ∧ s49 = .int .i64 jj ∧ Aside0 (∀ i, i < jj → symB a0_0 a0_1 (t.getD i 0) = true) ∧ Aside0 (wr.heap[gb]? = some (.cells #[.int .i64 a0_0, .int .i64 a0_1, .slice A0_2 l0_2.length c0_2, .slice A0_3 l0_3.length c0_3, .slice A0_4 l0_4.length c0_4, .slice A0_5 l0_5.length c0_5] 32 (0, 0))) ∧ Aside0 (Kd.C (Kd.int .i64) wr A9 t.length t) ∧ Aside0 (Below w.heap.size w wr))
          case atStart => exact ⟨0, Nat.zero_le _, zz1g, rfl, ⟨fun i hi => absurd hi (Nat.not_lt_zero _)⟩, BK, HI9, HB⟩
          case round =>
           clear BK HB HI9; obtain ⟨jj, hjj, hg2, rfl, S, BK, HI9, HB⟩ := hrel; by_cases hlt2 : jj < t.length
           · have hd2 : decide (jj < t.length) = true := decide_eq_true hlt2; obtain ⟨ay9, e, hy9⟩ := Kd.at_int HI9.out (jj : Int) zz1g zz1g; subst e; have hy8 : wr.cell? (ay9.add jj) = some (.int .i64 (rd t jj)) := by simpa using hy9
             have hx0 : wr.cell? ⟨gb, 0, none⟩ = some (.int .i64 a0_0) := (zK BK.out 0).trans rfl; have hx1 : wr.cell? ⟨gb, 1, none⟩ = some (.int .i64 a0_1) := (zK BK.out 1).trans rfl; have hx2 : wr.cell? ⟨gb, 2, none⟩ = some (.slice A0_2 l0_2.length c0_2) := (zK BK.out 2).trans rfl; have hx3 : wr.cell? ⟨gb, 3, none⟩ = some (.slice A0_3 l0_3.length c0_3) := (zK BK.out 3).trans rfl; have hx4 : wr.cell? ⟨gb, 4, none⟩ = some (.slice A0_4 l0_4.length c0_4) := (zK BK.out 4).trans rfl; have hx5 : wr.cell? ⟨gb, 5, none⟩ = some (.slice A0_5 l0_5.length c0_5) := (zK BK.out 5).trans rfl; have L2 := zA hlt2; clear hy9; have CS := SY.out (rd t jj) wr HB.out; have SE := zA (show t.getD jj 0 = rd t jj from rfl); generalize rd t jj = x at hy8 CS SE; cases hs : symB a0_0 a0_1 x with
             | true =>
              rw [hs] at CS; have SX := zA hs; clear hs; go_wp2_with fail; refine CS.mono ?_; rintro e w' ⟨rfl, hb'⟩; clear CS hd2; go_wp2
              go_roundg (t.length - (jj + 1))
              case measure => have := L2.out; omega
              case rel => exact ⟨jj + 1, zz18 L2, zz1g, zz1e, ⟨fun (i : Nat) (hi : i < jj + 1) => if ej : i = jj then (by subst ej; rw [SE.out]; exact SX.out) else S.out i (by have := hi; have := ej; omega)⟩, ⟨zM BK.out hb'⟩, ⟨zS HI9.out hb'⟩, ⟨zG HB.out hb'⟩⟩
             | false =>
              rw [hs] at CS; have J4 := zA (show listsF a0_0 a0_1 a2 none l1 = false by rw [R.out, PV2.out, OKD.out, NOS.out jj L2.out (by rw [SE.out]; exact hs), Bool.false_and]); clear hs; go_wp2_with fail; refine CS.mono ?_; rintro e w' ⟨rfl, hb'⟩; clear CS hd2 hlt2; go_wp2; go_ret; exact ⟨zz1a J4, zG HB.out hb'⟩
           · have hd2 : decide (jj < t.length) = false := decide_eq_false hlt2; have RW := zA (YESS.out (fun i hi => S.out i zz1g)); have J5 := zA (show listsF a0_0 a0_1 a2 none l1 = listsF a0_0 a0_1 a2 (prevL l1 (m + 1 + 1)) (l1.drop (m + 1 + 1)) by rw [R.out, PV2.out, OKD.out, RW.out]; rfl); clear hlt2; go_wp2
             go_roundg (l1.length - (m + 1 + 1))
             case measure => have := L.out; omega
             case rel => exact ⟨m + 1 + 1, zz18 L, zz1g, zz1e, J5, ⟨fun z_ hz_ => by rw [PRN.out] at hz_; cases hz_; exact H1x.out⟩, BK, HB⟩
         | false =>
          refine wp_region_later zz1c zz1c ?_; (repeat (go_big_quiet_step (first | (go_at_call 41; with_reducible exact Later.callD (spec_l1In.calls (rd y 0) 0 (wrap64 (a0_0 - 1)) true _ J1.out)) | (go_at_call 78; with_reducible exact Later.callD (CM _ (Later.below _)))))); refine wpQuiet_nil ?_; intro w4_ hw4; obtain ⟨⟨w4, hb4⟩, hw4⟩ := hw4; subst hw4; (try dsimp only); have B4 := zA hb4; clear hb4; have J4 := zA (show listsF a0_0 a0_1 a2 none l1 = false by rw [R.out, PV2.out, OKD.out]; rw [Bool.false_and, Bool.and_false]); clear q0 q1 hd; go_wp2; go_ret; exact ⟨zz1a J4, zG HB.out B4.out⟩
      · have J1 := zA (show spec_l1In.f (rd y 0) 0 (wrap64 (a0_0 - 1)) = some false by rw [l1In_eq, decide_eq_false h2]); have W3 := zA (show rowOk a0_0 a0_1 a2 y = false by unfold rowOk; rw [decide_eq_false h2]; simp); clear h2; refine wp_region_later zz1c zz1c ?_; (repeat (go_big_quiet_step (first | (go_at_call 41; with_reducible exact Later.callD (spec_l1In.calls (rd y 0) 0 (wrap64 (a0_0 - 1)) false _ J1.out))))); refine wpQuiet_nil ?_; intro w4_ hw4; obtain ⟨⟨w4, hb4⟩, hw4⟩ := hw4; subst hw4; (try dsimp only); have B4 := zA hb4; clear hb4; have J4 := zA (show listsF a0_0 a0_1 a2 none l1 = false by rw [R.out, OKD.out]; rw [W3.out, Bool.false_and]); clear q0 q1 hd; go_wp2; go_ret; exact ⟨zz1a J4, zG HB.out B4.out⟩
    · have e1 : ((y.length : Int) != a2) = true := by simpa using h1
      have W3 := zA (show rowOk a0_0 a0_1 a2 y = false by unfold rowOk; rw [decide_eq_false h1]; simp); clear h1; refine wp_region_later zz1c zz1c ?_; (repeat (go_big_quiet_step (fail))); refine wpQuiet_nil ?_; intro w4_ hw4; obtain ⟨⟨w4, hb4⟩, hw4⟩ := hw4; subst hw4; (try dsimp only); have B4 := zA hb4; clear hb4; have J4 := zA (show listsF a0_0 a0_1 a2 none l1 = false by rw [R.out, OKD.out]; rw [W3.out, Bool.false_and]); clear q0 q1 hd; go_wp2; go_ret; exact ⟨zz1a J4, zG HB.out B4.out⟩
  · have hd : decide (kk < l1.length) = false := decide_eq_false hlt; have FIN := zA (show listsF a0_0 a0_1 a2 none l1 = true by rw [R.out, List.drop_of_length_le zz1g]; cases kk <;> rfl); clear hlt; go_wp2; go_ret; exact ⟨zz1a FIN, HB.out⟩
end Go.Proofs.YtkocahlifffgjaaGreat.P
namespace Go.Proofs.YtkocahlifffgjaaGreat.P
open Go.RowKit Go.Proofs.YtkocahlifffgjaaGreatW.PrintWords Go.Proofs.YtkocahlifffgjaaGreatW.PrintLast Go.Proofs.YtkocahlifffgjaaGreatW.PrintMore
attribute [local go_sem] max2_int min2_int max_two min_two max_three min_three max_four min_four
set_option linter.unusedVariables false
set_option linter.unusedSimpArgs false
mutual
def spec_GoodBinary.j0 : Nat → Bool → Int → Int → List (List Int) → List (List Int) → List Int → List (List Int) → Option (Bool)
 | 0, _, _, _, _, _, _, _ => none
 | k + 1, x22, aY, aV, aM, aW, a6, aZ => if x22 = true then (some false) else (spec_GoodBinary.l0 k aZ (aZ.length : Int) 0 aY aV aM aW a6 aZ)
def spec_GoodBinary.l0 : Nat → List (List Int) → Int → Int → Int → Int → List (List Int) → List (List Int) → List Int → List (List Int) → Option (Bool)
 | 0, _, _, _, _, _, _, _, _, _ => none
 | k + 1, hV, iI, hM, aY, aV, aM, aW, a6, aZ => if hM < iI then (if 0 ≤ hM then (if hM < (hV.length : Int) then (if ((rd_L1 hV hM).length : Int) = 2 then (spec_GoodBinary.l0 k hV iI (wrap64 (hM + 1)) aY aV aM aW a6 aZ) else (some false)) else (none)) else (none)) else ((spec_l5Rising.f aY aV aM aW a6 aZ aM 3).bind fun cY => (if cY = true then ((spec_l5Rising.f aY aV aM aW a6 aZ aW 2).bind fun cp => (if cp = true then ((spec_l1Rising.f k a6 0 (wrap64 (aY - 1))).bind fun cr => (some cr)) else (some false))) else (some false)))
end
def spec_GoodBinary.f (k : Nat) (ae : Int) (al : Int) (ab : List (List Int)) (af : List (List Int)) (ai : List Int) (ah : List (List Int)) : Option (Bool) := (spec_l1In.f ae 1 40).bind fun aH => (if aH = true then ((spec_l1In.f al 1 4).bind fun b7 => (if b7 = true then (spec_GoodBinary.j0 k (decide ((ah.length : Int) > ae)) ae al ab af ai ah) else (spec_GoodBinary.j0 k true ae al ab af ai ah))) else (spec_GoodBinary.j0 k true ae al ab af ai ah))
set_option maxHeartbeats 8000000 in
set_option maxRecDepth 100000 in
theorem spec_GoodBinary.calls (k : Nat) (ae : Int) (al : Int) (az : Option Addr) (aq : Nat) (ab : List (List Int)) (ay : Option Addr) (av : Nat) (af : List (List Int)) (ar : Option Addr) (au : Nat) (ai : List Int) (aw : Option Addr) (ax : Nat) (ah : List (List Int)) (r : Bool) (w : World) (bX : Kd.C (Kd.slice 3 (Kd.int .i64)) w az ab.length ab) (bY : ab.length ≤ aq) (bZ : Kd.C (Kd.slice 3 (Kd.int .i64)) w ay af.length af) (b0 : af.length ≤ av) (b1 : Kd.C (Kd.int .i64) w ar ai.length ai) (b2 : ai.length ≤ au) (b3 : Kd.C (Kd.slice 3 (Kd.int .i64)) w aw ah.length ah) (b4 : ah.length ≤ ax) (h : spec_GoodBinary.f k ae al ab af ai ah = some r) :
 Calls Tryz.prog 39 #[.agg #[.int .i64 ae, .int .i64 al, .slice az ab.length aq, .slice ay af.length av, .slice ar ai.length au, .slice aw ah.length ax]] w fun e w' => e = .returned (.bool r) ∧ Below w.heap.size w w' := by
 have hu32 := Tryz.underlying32; have bs := zA bX; have bw := zA bY; clear bX bY; have bt := zA bZ; have bz := zA b0; clear bZ b0; have bA := zA b1; have bB := zA b2; clear b1 b2; have bC := zA b3; have bI := zA b4; clear b3 b4; have HB := zA (Below.refl w.heap.size w); have H : ((spec_l1In.f ae 1 40).bind fun aH => (if aH = true then ((spec_l1In.f al 1 4).bind fun b7 => (if b7 = true then (spec_GoodBinary.j0 k (decide ((ah.length : Int) > ae)) ae al ab af ai ah) else (spec_GoodBinary.j0 k true ae al ab af ai ah))) else (spec_GoodBinary.j0 k true ae al ab af ai ah))) = some r := h; clear h; have fI := zA H; clear H; go_enter Tryz.func39, Tryz.ntmps39
 go_upto_region 1 with (first | ((with_reducible refine gate_dst (N := 1) rfl ?_); (try (refine gate_guard zz1i ?_; dsimp only)); refine box_event ?hg (N := 1) ?hd (cs := #[.int .i64 ae, .int .i64 al, .slice az ab.length aq, .slice ay af.length av, .slice ar ai.length au, .slice aw ah.length ax]) (t := 32) ?hr ?_; (case hd => rfl); (case hg => rfl); (case hr => first | (go_simp; done) | (go_simp; rfl)); intro ad hg w3 hbox hb; have aa := zA (hbox); have bD := zA ((by rw [hg]; exact (zF (zz0q HB)) : w.heap.size ≤ ad)); have ac := zA ((by rw [hg]; exact (zF (zz0q HB)) : w.heap.size ≤ ad)); replace HB := zA (zG (zz0q HB) hb); clear hb hbox hg))
 (try simp only [Act.put, List.setIfInBounds_toArray, List.set_cons_zero, List.set_cons_succ])
 go_cut [22] (fun v22 wc => ∃ (kq : Nat) (kv : Bool), v22 = .bool kv ∧ Aside0 (spec_GoodBinary.j0 kq kv ae al ab af ai ah = some r) ∧ Aside0 (kq ≤ k) ∧ Aside0 (wc.heap[ad]? = some (.cells #[.int .i64 ae, .int .i64 al, (.slice az ab.length aq), (.slice ay af.length av), (.slice ar ai.length au), (.slice aw ah.length ax)] 32 (0, 0))) ∧ Aside0 (Below w.heap.size w wc))
 case first =>
  have H := fI.out; clear fI; replace H := Option.bind_eq_some_iff.mp H; obtain ⟨aH, fM, H⟩ := H; have A4 := zA fM; clear fM; by_cases c5 : aH = true
  · subst c5; rw [if_pos rfl] at H; replace H := Option.bind_eq_some_iff.mp H; obtain ⟨b7, gx, H⟩ := H; have A6 := zA gx; clear gx; by_cases c7 : b7 = true
    · subst c7; rw [if_pos rfl] at H; have H' := zA H; clear H; obtain ⟨eY, eZ, fR, fS, fT, fU⟩ := zk6 aa.out; go_wp2_with (first | ((with_reducible refine gate_callee (f := 41) rfl ?_); refine goesL_ (some 7) rfl rfl Tryz.func41 zz1c rfl #[.int .i64 ae, .int .i64 1, .int .i64 40] rfl zz0d ?_; (with_reducible refine (spec_l1In.calls ae 1 40 true _ A4.out).mono ?_); rintro e w' ⟨rfl, ⟨nd, rfl⟩⟩; refine ⟨_, rfl, ?_⟩) | (go_at_call 41; (with_reducible refine (spec_l1In.calls al 1 4 true _ A6.out).mono ?_); rintro e w' ⟨rfl, ⟨nd, rfl⟩⟩))
      go_meet
      case rel => exact ⟨_, (decide ((ah.length : Int) > ae)), zz0y, H', ⟨zz14⟩, ⟨zz0s aa⟩, ⟨zz0h HB ac⟩⟩
    · replace c7 := Bool.eq_false_iff.mpr c7; subst c7; rw [if_neg zFt] at H; have H' := zA H; clear H; obtain ⟨ha, hc, mj, ml, mm, mn⟩ := zk6 aa.out; go_wp2_with (first | ((with_reducible refine gate_callee (f := 41) rfl ?_); refine goesL_ (some 7) rfl rfl Tryz.func41 zz1c rfl #[.int .i64 ae, .int .i64 1, .int .i64 40] rfl zz0d ?_; (with_reducible refine (spec_l1In.calls ae 1 40 true _ A4.out).mono ?_); rintro e w' ⟨rfl, ⟨nd, rfl⟩⟩; refine ⟨_, rfl, ?_⟩) | (go_at_call 41; (with_reducible refine (spec_l1In.calls al 1 4 false _ A6.out).mono ?_); rintro e w' ⟨rfl, ⟨nd, rfl⟩⟩))
      go_meet
      case rel => exact ⟨_, (true), zz0y, H', ⟨zz14⟩, ⟨zz0s aa⟩, ⟨zz0h HB ac⟩⟩
  · replace c5 := Bool.eq_false_iff.mpr c5; subst c5; rw [if_neg zFt] at H; have H' := zA H; clear H; obtain ⟨f2, f3, iL, iM, iN, iO⟩ := zk6 aa.out; go_wp2_with (first | ((with_reducible refine gate_callee (f := 41) rfl ?_); refine goesL_ (some 7) rfl rfl Tryz.func41 zz1c rfl #[.int .i64 ae, .int .i64 1, .int .i64 40] rfl zz0d ?_; (with_reducible refine (spec_l1In.calls ae 1 40 false _ A4.out).mono ?_); rintro e w' ⟨rfl, ⟨nd, rfl⟩⟩; refine ⟨_, rfl, ?_⟩))
    go_meet
    case rel => exact ⟨_, (true), zz0y, H', ⟨zz14⟩, ⟨zz0s aa⟩, ⟨zz0h HB ac⟩⟩
 case rest =>
  clear fI; (try clear p2); (try clear c3); (try clear c4); (try clear c5); (try clear c7); (try clear f2); (try clear f3); (try clear iL); (try clear iM); (try clear iN); (try clear iO); (try clear eY); (try clear eZ); (try clear fR); (try clear fS); (try clear fT); (try clear fU); (try clear ha); (try clear hc); (try clear mj); (try clear ml); (try clear mm); (try clear mn); obtain ⟨kq, kv, rfl, HA, HJ1, aa, HB⟩ := hcut; cases kq with
  | zero => exact absurd HA.out (by simp [spec_GoodBinary.j0])
  | succ kj1 =>
   have H := HA.out; clear HA; simp only [spec_GoodBinary.j0] at H; by_cases eF : kv = true
   · subst eF; rw [if_pos rfl] at H; obtain rfl := Option.some.inj H; go_wp2; go_ret; exact ⟨zz0r, zz0h HB ac⟩
   · replace eF := Bool.eq_false_iff.mpr eF; subst eF; rw [if_neg zFt] at H; have H' := zA H; clear H; obtain ⟨kw, kx, ky, kz, kA, kB⟩ := zk6 aa.out; go_wp2; go_loopg [26] kj1 (fun kq qN w' => ∃ (aK : Int), qN = .int .i64 aK ∧ Aside0 (spec_GoodBinary.l0 kq ah (ah.length : Int) aK ae al ab af ai ah = some r) ∧ Aside0 (kq ≤ kj1) ∧ Aside0 (w'.heap[ad]? = some (.cells #[.int .i64 ae, .int .i64 al, (.slice az ab.length aq), (.slice ay af.length av), (.slice ar ai.length au), (.slice aw ah.length ax)] 32 (0, 0))) ∧ Aside0 (Below w.heap.size w w'))
     case atStart => exact ⟨(0), zz0y, H', ⟨Nat.le_refl _⟩, ⟨zz0s aa⟩, ⟨zz0h HB ac⟩⟩
     case round =>
      clear H'; (try clear c1); (try clear p2); (try clear c3); (try clear c4); (try clear c5); (try clear c7); (try clear eF); (try clear f2); (try clear f3); (try clear iL); (try clear iM); (try clear iN); (try clear iO); (try clear kw); (try clear kx); (try clear ky); (try clear kz); (try clear kA); (try clear kB); (try clear eY); (try clear eZ); (try clear fR); (try clear fS); (try clear fT); (try clear fU); (try clear ha); (try clear hc); (try clear mj); (try clear ml); (try clear mm); (try clear mn); (try clear p2); obtain ⟨aK, rfl, HA, cS, aa, HB⟩ := hrel; cases gk with
      | zero => exact absurd HA.out (by simp [spec_GoodBinary.l0])
      | succ k2 =>
       have H := HA.out; clear HA; simp only [spec_GoodBinary.l0] at H; by_cases gm : aK < (ah.length : Int)
       · rw [if_pos gm] at H; have kd := decide_eq_true gm; clear gm; replace H := zIn H; obtain ⟨gw, H⟩ := H; have iX : decide (0 ≤ aK) = true := decide_eq_true gw; clear gw; replace H := zIn H; obtain ⟨jw, H⟩ := H; have i6 : decide (aK < (ah.length : Int)) = true := decide_eq_true jw; clear jw; by_cases iR : ((rd_L1 ah aK).length : Int) = 2
         · rw [if_pos iR] at H; have mi : (((rd_L1 ah aK).length : Int) == 2) = true := beq_iff_eq.mpr iR; have c16b1 : (((rd_L1 ah aK).length : Int) != 2) = false := bne_eq_false_iff_eq.mpr iR; clear iR; have H' := zA H; clear H; have dv : 0 ≤ (aK : Int) := of_decide_eq_true zz1b; have dw : aK < (ah.length : Int) := of_decide_eq_true zz1b; obtain ⟨gy, gh, gi, fN, bK, cA, cB⟩ := at_L1 bC.out aK dv dw; cases fN; replace bK := (HB.out.cell (World.block_lt_of_cell? w _ bK)).trans bK; have dk := zA cB; have fx := zA cA; clear cB cA; replace dv := eq_true dv; replace dw := eq_true dw; go_wp2
           go_roundg k2
           case measure => have := HJ1.out; have := cS.out; omega
           case rel => exact ⟨(wrap64 (aK + 1)), zz0y, H', ⟨zz15 HJ1 cS⟩, ⟨zz0s aa⟩, ⟨zz0h HB ac⟩⟩
         · rw [if_neg iR] at H; have mi : (((rd_L1 ah aK).length : Int) == 2) = false := beq_eq_false_iff_ne.mpr iR; have c16b1 : (((rd_L1 ah aK).length : Int) != 2) = true := bne_iff_ne.mpr iR; obtain rfl := Option.some.inj H; have dv : 0 ≤ (aK : Int) := of_decide_eq_true zz1b; have dw : aK < (ah.length : Int) := of_decide_eq_true zz1b; obtain ⟨gy, gh, gi, fN, bK, cA, cB⟩ := at_L1 bC.out aK dv dw; cases fN; replace bK := (HB.out.cell (World.block_lt_of_cell? w _ bK)).trans bK; have dk := zA cB; have fx := zA cA; clear cB cA; replace dv := eq_true dv; replace dw := eq_true dw; go_wp2; go_ret; exact ⟨zz0r, zz0h HB ac⟩
       · rw [if_neg gm] at H; have kd := decide_eq_false gm; clear gm; replace H := Option.bind_eq_some_iff.mp H; obtain ⟨cY, qc, H⟩ := H; have qR := zA qc; clear qc; by_cases gr : cY = true
         · subst gr; rw [if_pos rfl] at H; replace H := Option.bind_eq_some_iff.mp H; obtain ⟨cp, lE, H⟩ := H; have pB := zA lE; clear lE; by_cases hU : cp = true
           · subst hU; rw [if_pos rfl] at H; replace H := Option.bind_eq_some_iff.mp H; obtain ⟨cr, lF, H⟩ := H; have pi := zA lF; clear lF; obtain rfl := Option.some.inj H; obtain ⟨g1, g2, hcz22_2, hcz22_3, hcz22_4, hcz22_5⟩ := zk6 aa.out; go_wp2_with (first | ((with_reducible refine gate_callee (f := 64) rfl ?_); refine goesL_ (some 37) rfl rfl Tryz.func64 zz1c rfl #[.agg #[.int .i64 ae, .int .i64 al, .slice az ab.length aq, .slice ay af.length av, .slice ar ai.length au, .slice aw ah.length ax], .slice az ab.length aq, .int .i64 3] rfl zz0d ?_; (with_reducible refine (spec_l5Rising.calls ae al _ _ ab _ _ af _ _ ai _ _ ah _ _ ab 3 true _ ?aj ?ak ?aI ?aJ ?bh ?bi ?bj ?bk ?ck ?bL qR.out).mono ?_); (case aj => exact (zz0t bs HB)); (case ak => exact bw.out); (case aI => exact (zz0t bt HB)); (case aJ => exact bz.out); (case bh => exact (zz0t bA HB)); (case bi => exact bB.out); (case bj => exact (zz0t bC HB)); (case bk => exact bI.out); (case ck => exact (zz0t bs HB)); (case bL => exact bw.out); rintro e ph ⟨rfl, hb⟩; refine ⟨_, rfl, ?_⟩; replace aa := zA (zMp aa.out hb); replace HB := zA (zG (zz0h HB ac) hb); (try clear hb); (try clear hb2); (try clear hk); (try clear hi); obtain ⟨hcz24_0, hcz24_1, hcz24_2, hcz24_3, hcz24_4, hcz24_5⟩ := zk6 aa.out; have hfz24_5 := zL aa.out 5) | (go_at_call 64; (with_reducible refine (spec_l5Rising.calls ae al _ _ ab _ _ af _ _ ai _ _ ah _ _ af 2 true _ ?aj ?ak ?aI ?aJ ?bh ?bi ?bj ?bk ?ck ?bL pB.out).mono ?_); (case aj => exact (zz0t bs HB)); (case ak => exact bw.out); (case aI => exact (zz0t bt HB)); (case aJ => exact bz.out); (case bh => exact (zz0t bA HB)); (case bi => exact bB.out); (case bj => exact (zz0t bC HB)); (case bk => exact bI.out); (case ck => exact (zz0t bt HB)); (case bL => exact bz.out); rintro e w25 ⟨rfl, hb⟩; replace aa := zA (zMp aa.out hb); replace HB := zA (zG (zz0h HB ac) hb); (try clear hb); (try clear hb2); (try clear hk); (try clear hi); obtain ⟨ip, iq, ir, it, iu, iv⟩ := zk6 aa.out; have hfz26_5 := zL aa.out 5) | (go_at_call 42; (with_reducible refine (spec_l1Rising.calls k2 _ _ ai 0 (wrap64 (ae - 1)) cr _ ?aj ?ak pi.out).mono ?_); (case aj => exact (zz0t bA HB)); (case ak => exact bB.out); rintro e w' ⟨rfl, ⟨nd, rfl⟩⟩)); go_ret; exact ⟨zz0r, zz0h HB ac⟩
           · replace hU := Bool.eq_false_iff.mpr hU; subst hU; rw [if_neg zFt] at H; obtain rfl := Option.some.inj H; obtain ⟨hcz27_0, hcz27_1, hcz27_2, hcz27_3, hcz27_4, hcz27_5⟩ := zk6 aa.out; go_wp2_with (first | ((with_reducible refine gate_callee (f := 64) rfl ?_); refine goesL_ (some 37) rfl rfl Tryz.func64 zz1c rfl #[.agg #[.int .i64 ae, .int .i64 al, .slice az ab.length aq, .slice ay af.length av, .slice ar ai.length au, .slice aw ah.length ax], .slice az ab.length aq, .int .i64 3] rfl zz0d ?_; (with_reducible refine (spec_l5Rising.calls ae al _ _ ab _ _ af _ _ ai _ _ ah _ _ ab 3 true _ ?aj ?ak ?aI ?aJ ?bh ?bi ?bj ?bk ?ck ?bL qR.out).mono ?_); (case aj => exact (zz0t bs HB)); (case ak => exact bw.out); (case aI => exact (zz0t bt HB)); (case aJ => exact bz.out); (case bh => exact (zz0t bA HB)); (case bi => exact bB.out); (case bj => exact (zz0t bC HB)); (case bk => exact bI.out); (case ck => exact (zz0t bs HB)); (case bL => exact bw.out); rintro e qK ⟨rfl, hb⟩; refine ⟨_, rfl, ?_⟩; replace aa := zA (zMp aa.out hb); replace HB := zA (zG (zz0h HB ac) hb); (try clear hb); (try clear hb2); (try clear hk); (try clear hi); obtain ⟨ka, kb, hcz29_2, hcz29_3, hcz29_4, hcz29_5⟩ := zk6 aa.out; have hfz29_5 := zL aa.out 5) | (go_at_call 64; (with_reducible refine (spec_l5Rising.calls ae al _ _ ab _ _ af _ _ ai _ _ ah _ _ af 2 false _ ?aj ?ak ?aI ?aJ ?bh ?bi ?bj ?bk ?ck ?bL pB.out).mono ?_); (case aj => exact (zz0t bs HB)); (case ak => exact bw.out); (case aI => exact (zz0t bt HB)); (case aJ => exact bz.out); (case bh => exact (zz0t bA HB)); (case bi => exact bB.out); (case bj => exact (zz0t bC HB)); (case bk => exact bI.out); (case ck => exact (zz0t bt HB)); (case bL => exact bz.out); rintro e qO ⟨rfl, hb⟩; replace aa := zA (zMp aa.out hb); replace HB := zA (zG (zz0h HB ac) hb); (try clear hb); (try clear hb2); (try clear hk); (try clear hi))); go_ret; exact ⟨zz0r, zz0h HB ac⟩
         · replace gr := Bool.eq_false_iff.mpr gr; subst gr; rw [if_neg zFt] at H; obtain rfl := Option.some.inj H; obtain ⟨kC, kD, hcz31_2, hcz31_3, hcz31_4, hcz31_5⟩ := zk6 aa.out; go_wp2_with (first | ((with_reducible refine gate_callee (f := 64) rfl ?_); refine goesL_ (some 37) rfl rfl Tryz.func64 zz1c rfl #[.agg #[.int .i64 ae, .int .i64 al, .slice az ab.length aq, .slice ay af.length av, .slice ar ai.length au, .slice aw ah.length ax], .slice az ab.length aq, .int .i64 3] rfl zz0d ?_; (with_reducible refine (spec_l5Rising.calls ae al _ _ ab _ _ af _ _ ai _ _ ah _ _ ab 3 false _ ?aj ?ak ?aI ?aJ ?bh ?bi ?bj ?bk ?ck ?bL qR.out).mono ?_); (case aj => exact (zz0t bs HB)); (case ak => exact bw.out); (case aI => exact (zz0t bt HB)); (case aJ => exact bz.out); (case bh => exact (zz0t bA HB)); (case bi => exact bB.out); (case bj => exact (zz0t bC HB)); (case bk => exact bI.out); (case ck => exact (zz0t bs HB)); (case bL => exact bw.out); rintro e ql ⟨rfl, hb⟩; refine ⟨_, rfl, ?_⟩; replace aa := zA (zMp aa.out hb); replace HB := zA (zG (zz0h HB ac) hb); (try clear hb); (try clear hb2); (try clear hk); (try clear hi))); go_ret; exact ⟨zz0r, zz0h HB ac⟩
end Go.Proofs.YtkocahlifffgjaaGreat.P
namespace Go.Proofs.YtkocahlifffgjaaGreat.P
open Go.RowKit Go.Proofs.YtkocahlifffgjaaGreatW.PrintWords
set_option linter.unusedVariables false
set_option linter.unusedSimpArgs false
theorem l1Rising_loop (l : List Int) (lo hi : Int) (hb : l.length ≤ 9223372036854775807) (d : Nat) : ∀ (k i : Nat), i ≤ l.length → l.length - i = d → d < k →
 spec_l1Rising.l0 k l lo hi l l.length i = some (riseF lo hi (prevI l i) (l.drop i)) := by
 induction d with
 | zero =>
  intro k i h1 hd hk; obtain ⟨k, rfl⟩ : ∃ m, k = m + 1 := ⟨k - 1, zz1g⟩
  simp only [spec_l1Rising.l0]; rw [if_neg zz1g, List.drop_of_length_le (show l.length ≤ i by omega)]; cases i <;> rfl
 | succ d ih =>
  intro k i h1 hd hk; obtain ⟨k, rfl⟩ : ∃ m, k = m + 1 := ⟨k - 1, zz1g⟩
  have hi2 := ih k (i + 1) zz1g zz1g zz1g; simp only [spec_l1Rising.l0]; rw [if_pos zz1g, if_pos zz1g, if_pos zz1g, l1In_eq, getD_drop l i 0 zz1g]; simp only [Option.bind_some]; have e0 : l.getD i 0 = rd l i := rfl; rw [e0]; have ew : wrap64 ((i : Int) + 1) = ((i + 1 : Nat) : Int) := by unfold wrap64; omega
  have er : ∀ p m, riseF lo hi p (rd l i :: m) = (decide (lo ≤ rd l i ∧ rd l i ≤ hi) && ((match p with | none => true | some y => decide (y < rd l i)) && riseF lo hi (some (rd l i)) m)) := fun _ _ => rfl
  rw [er]; by_cases h : lo ≤ rd l i ∧ rd l i ≤ hi
  · rw [if_pos (decide_eq_true h), decide_eq_true h, Bool.true_and]; cases i with
    | zero => rw [if_neg zz1h, ew, hi2]; rfl
    | succ i =>
     have e1 : wrap64 (((i + 1 : Nat) : Int) - 1) = (i : Int) := by unfold wrap64; omega
     rw [if_pos zz1g, e1, if_pos zz1g, if_pos zz1g]; show _ = some (decide (rd l i < rd l ((i + 1 : Nat) : Int)) && _); by_cases h2 : rd l i < rd l ((i + 1 : Nat) : Int)
     · rw [if_neg zz1g, ew, hi2, decide_eq_true h2]; rfl
     · rw [if_pos zz1g, decide_eq_false h2]; rfl
  · rw [if_neg (by rw [decide_eq_false h]; exact Bool.false_ne_true), decide_eq_false h, Bool.false_and]
theorem l1Rising_eq (l : List Int) (lo hi : Int) (hb : l.length ≤ 9223372036854775807) (k : Nat) (hk : l.length < k) : spec_l1Rising.f k l lo hi = some (riseF lo hi none l) := by
 unfold spec_l1Rising.f; have := l1Rising_loop l lo hi hb l.length k 0 zz1g zz1g hk; simpa [prevI] using this
theorem goodB_from (a0 a1 : Int) (l2 l3 : List (List Int)) (l4 : List Int) (l5 : List (List Int)) (h : smallB l2 l3 l4 l5) (d : Nat) : ∀ (i : Nat), i ≤ l5.length → l5.length - i = d →
 Ev (fun k => spec_GoodBinary.l0 k l5 l5.length i a0 a1 l2 l3 l4 l5) (!((l5.drop i).any fun f => (f.length : Int) != 2) && (listsF a0 a1 3 none l2 && (listsF a0 a1 2 none l3 && riseF 0 (wrap64 (a0 - 1)) none l4))) := by
 have hb5 := h.2.2.2.1; have hb4 := h.2.2.1
 induction d with
 | zero =>
  intro i h1 hd; refine ⟨l4.length + 2, fun k hk => ?_⟩; dsimp only; obtain ⟨k, rfl⟩ : ∃ m, k = m + 1 := ⟨k - 1, zz1g⟩
  simp only [spec_GoodBinary.l0]; rw [if_neg zz1g, List.drop_of_length_le zz1g]; unfold spec_l5Rising.f; rw [if_pos zz1f, if_pos zz1f]; simp only [Option.bind_some]; cases listsF a0 a1 3 none l2 with
  | false => rfl
  | true =>
   rw [if_pos rfl]; cases listsF a0 a1 2 none l3 with
   | false => rfl
   | true =>
    rw [if_pos rfl, l1Rising_eq l4 0 (wrap64 (a0 - 1)) zz1g k zz1g]; rfl
 | succ d ih =>
  intro i h1 hd; obtain ⟨K, hi⟩ := ih (i + 1) zz1g zz1g; dsimp only at hi; refine ⟨K + 1, fun k hk => ?_⟩; dsimp only; obtain ⟨k, rfl⟩ : ∃ m, k = m + 1 := ⟨k - 1, zz1g⟩
  simp only [spec_GoodBinary.l0]; rw [if_pos zz1g, if_pos zz1g, if_pos zz1g, getD_drop l5 i [] zz1g, List.any_cons]; have e0 : l5.getD i [] = rd_L1 l5 i := rfl; rw [e0]; by_cases h2 : ((rd_L1 l5 i).length : Int) = 2
  · rw [if_pos h2, show wrap64 ((i : Int) + 1) = ((i + 1 : Nat) : Int) by unfold wrap64; omega, hi k zz1g, show (((rd_L1 l5 i).length : Int) != 2) = false by rw [h2]; rfl, Bool.false_or]
  · rw [if_neg h2, show (((rd_L1 l5 i).length : Int) != 2) = true by simpa using h2]; rfl
theorem spec_GoodBinary_ev (a0 a1 : Int) (l2 l3 : List (List Int)) (l4 : List Int) (l5 : List (List Int)) (h : smallB l2 l3 l4 l5) : Ev (fun k => spec_GoodBinary.f k a0 a1 l2 l3 l4 l5) (goodB a0 a1 l2 l3 l4 l5) := by
 obtain ⟨K, hk0⟩ := goodB_from a0 a1 l2 l3 l4 l5 h l5.length 0 zz1g zz1g; dsimp only at hk0; rw [List.drop_zero] at hk0; refine ⟨K + 1, fun k hk => ?_⟩; dsimp only; obtain ⟨k, rfl⟩ : ∃ m, k = m + 1 := ⟨k - 1, zz1g⟩
 unfold spec_GoodBinary.f goodB; rw [l1In_eq, l1In_eq]; simp only [Option.bind_some]; by_cases h1 : 1 ≤ a0 ∧ a0 ≤ 40
 · rw [decide_eq_true h1, if_pos rfl]; by_cases h2 : 1 ≤ a1 ∧ a1 ≤ 4
   · rw [decide_eq_true h2, if_pos rfl]; simp only [spec_GoodBinary.j0]; by_cases h3 : (l5.length : Int) ≤ a0
     · rw [decide_eq_false zz1g, if_neg zz1f, decide_eq_true h3]; have := hk0 k zz1g; rw [show ((0 : Nat) : Int) = 0 from rfl] at this; rw [this]; congr 1; cases (l5.any fun f => (f.length : Int) != 2) <;> cases listsF a0 a1 3 none l2 <;> cases listsF a0 a1 2 none l3 <;> cases riseF 0 (wrap64 (a0 - 1)) none l4 <;> rfl
     · rw [decide_eq_true zz1g, if_pos rfl, decide_eq_false h3]; cases riseF 0 (wrap64 (a0 - 1)) none l4 <;> rfl
   · rw [decide_eq_false h2, if_neg zz1f]; simp only [spec_GoodBinary.j0]; rfl
 · rw [decide_eq_false h1, if_neg zz1f]; simp only [spec_GoodBinary.j0]; rfl
end Go.Proofs.YtkocahlifffgjaaGreat.P
namespace Go.Proofs.YtkocahlifffgjaaGreat.P
open Go.RowKit Go.Proofs.YtkocahlifffgjaaGreatW.PrintWords Go.Proofs.YtkocahlifffgjaaGreatW.PrintLast Go.Proofs.YtkocahlifffgjaaGreatW.PrintMore
set_option linter.unusedVariables false
set_option linter.unusedSimpArgs false
structure UrS (w2 W : World) (bm : Nat) (D : DataW Value) (S : List Int) (u6 u8 : Value) (out todo : List Int) : Prop where
 below : Below w2.heap.size w2 W
 ho : Kd.R (Kd.int .i64) 3 W w2.heap.size (fun k => True ∧ some k ≠ u8.ownBlock) u6 out
 hq : Kd.Q (Kd.int .i64) 3 W w2.heap.size (fun k => True ∧ some k ≠ u6.ownBlock) u8 todo
 ow : W.ownsMap Tryz.prog 3 asIs bm S.length D
 ge : w2.heap.size ≤ bm
 ms : MapS D S
section
variable {w2 W V : World} {bm : Nat} {D : DataW Value} {S out todo : List Int} {u6 u8 : Value}
theorem ownsMap_ne {base e : Nat} {ok : Nat → Prop} {v : Value} {xs : List Int} {n : Nat} (h : W.ownsMap Tryz.prog 3 asIs bm n D) (hr : ∀ k, v.ownBlock = some k → ∃ cells, W.heap[k]? = some (.cells cells e (0, 0))) : some bm ≠ v.ownBlock := fun he => by
 obtain ⟨cells, hc⟩ := hr bm he.symm; obtain ⟨es, clock, hb, _⟩ := h; rw [hb] at hc; cases hc
theorem Q_typed {base e : Nat} {ok : Nat → Prop} {v : Value} {xs : List Int} (h : Kd.Q (Kd.int .i64) e W base ok v xs) : ∀ k, v.ownBlock = some k → ∃ cells, W.heap[k]? = some (.cells cells e (0, 0)) := fun k hk => by
 obtain ⟨_, _, _, q, hq, cells, hc⟩ := (Kd.Q_bound h).1 k hk; rw [show q = e from by simpa [Kd.int, Kd.scalar] using hq] at hc; exact ⟨cells, hc⟩
theorem UrS.mo (h : UrS w2 W bm D S u6 u8 out todo) : some bm ≠ u6.ownBlock := ownsMap_ne (base := 0) (ok := fun _ => True) (xs := []) h.ow (Kd.R_typed h.ho)
theorem UrS.mq (h : UrS w2 W bm D S u6 u8 out todo) : some bm ≠ u8.ownBlock := ownsMap_ne (base := 0) (ok := fun _ => True) (xs := []) h.ow (Q_typed h.hq)
theorem UrS.newo (h : UrS w2 W bm D S u6 u8 out todo) : ∀ k, W.heap.size ≤ k → True ∧ some k ≠ u8.ownBlock := fun k hk => ⟨trivial, fun e => by have := Kd.Q_lt h.hq k e.symm; omega⟩
theorem UrS.newq (h : UrS w2 W bm D S u6 u8 out todo) : ∀ k, W.heap.size ≤ k → True ∧ some k ≠ u6.ownBlock := fun k hk => ⟨trivial, fun e => by have := Kd.R_lt h.ho k e.symm; omega⟩
theorem UrS.addo (h : UrS w2 W bm D S u6 u8 out todo) {v1 : Value} {out' : List Int} (ho : Kd.R (Kd.int .i64) 3 V w2.heap.size (fun k => True ∧ some k ≠ u8.ownBlock) v1 out') (hb : Below w2.heap.size w2 V) (hg : W.grownBy V u6.ownBlock) (hat : v1.ownBlock = u6.ownBlock ∨ ∃ b, v1.ownBlock = some b ∧ W.heap.size ≤ b) : UrS w2 V bm D S v1 u8 out' todo :=
 ⟨hb, ho, Kd.Q_after h.hq hg hat, h.ow.kept hg h.mo, h.ge, h.ms⟩
theorem UrS.addq (h : UrS w2 W bm D S u6 u8 out todo) {v1 : Value} {todo' : List Int} (hq : Kd.Q (Kd.int .i64) 3 V w2.heap.size (fun k => True ∧ some k ≠ u6.ownBlock) v1 todo') (hb : Below w2.heap.size w2 V) (hg : W.grownBy V u8.ownBlock) (hat : v1.ownBlock = u8.ownBlock ∨ ∃ b, v1.ownBlock = some b ∧ W.heap.size ≤ b) : UrS w2 V bm D S u6 v1 out todo' :=
 ⟨hb, Kd.R_after h.ho hg hat, hq, h.ow.kept hg h.mq, h.ge, h.ms⟩
theorem UrS.cut (h : UrS w2 W bm D S u6 u8 out todo) {v1 : Value} {todo' : List Int} (hv : v1.ownBlock = u8.ownBlock ∨ v1.ownBlock = none) (hq : Kd.Q (Kd.int .i64) 3 W w2.heap.size (fun k => True ∧ some k ≠ u6.ownBlock) v1 todo') : UrS w2 W bm D S u6 v1 out todo' :=
 ⟨h.below, Kd.R_mono h.ho (fun k hk => ⟨trivial, fun e => by
  rcases hv with e2 | e2
  · exact hk.2 (e.trans e2)
  · rw [e2] at e; cases e⟩), hq, h.ow, h.ge, h.ms⟩
theorem UrS.seen (h : UrS w2 W bm D S u6 u8 out todo) {y : Int} (ow : V.ownsMap Tryz.prog 3 asIs bm (S.length + 1) (D.put (.int .i64 y) (.held (.bool true)))) (hg : W.grownBy V (some bm)) : UrS w2 V bm (D.put (.int .i64 y) (.held (.bool true))) (S ++ [y]) u6 u8 out todo :=
 ⟨h.below.grown hg (zF h.below) (fun k hk => by injection hk with hk; rw [← hk]; exact h.ge), Kd.R_grown (Kd.R_tight zz1i h.ho |> fun h2 => Kd.R_mono h2 (fun k hk => (⟨h.ho.1 k hk.symm, hk⟩ : (True ∧ some k ≠ u8.ownBlock) ∧ some k = u6.ownBlock))) hg (fun k hk e => h.mo (e.symm.trans hk.2)) |> fun h2 => Kd.R_mono h2 (fun k hk => hk.1), Kd.Q_grown2 h.hq zz1i hg (fun k hk => by injection hk with hk; rw [← hk]; exact h.mq), by rw [List.length_append]; exact ow, h.ge, mapS_put h.ms y⟩
end
theorem filter_one (z : Int) : [z].filter (fun z => decide (0 ≤ z)) = if 0 ≤ z then [z] else [] := by
 by_cases c : 0 ≤ z
 · rw [if_pos c]; simp [c]
 · rw [if_neg c]; simp [c]
theorem int_wf {z : Int} (h1 : -9223372036854775808 ≤ z) (h2 : z ≤ 9223372036854775807) : (Lit.int .i64 z).wf = true := by
 have e1 : IntKind.i64.min = -9223372036854775808 := by decide
 have e2 : IntKind.i64.max = 9223372036854775807 := by decide
 show (decide (IntKind.i64.min ≤ z) && decide (z ≤ IntKind.i64.max)) = true; rw [e1, e2, decide_eq_true h1, decide_eq_true h2]; rfl
set_option maxRecDepth 100000 in
theorem seen_look {W : World} {bm n : Nat} {D : DataW Value} {S : List Int} (ow : W.ownsMap Tryz.prog 3 asIs bm n D) (ms : MapS D S) {z : Int} (h1 : -9223372036854775808 ≤ z) (h2 : z ≤ 9223372036854775807) : (Instr.lookup 84 (.map (some bm)) (.int .i64 z) false).run Tryz.prog W = .ok (.bool (decide (z ∈ S))) W := by
 obtain ⟨v, ps, hrun, hv⟩ := ow.lookup (t := 84) (e := 4) (Go.Maps.int_keyed Tryz.underlying3) Tryz.underlying84 (z := .bool false) (zd := .held (.bool false)) (zp := []) (by obtain ⟨i0, hi0, hz0, _⟩ := info_parts info_bool; simp [zeroValue, typeInfo, hi0, hz0]) rfl (Go.Maps.keyOf_int_mk Tryz.underlying3 (int_wf h1 h2)); rw [ms.2 z] at hv; have e := (Prod.mk.inj (Option.some.inj hv)).1; injection e with e; rw [hrun, e]
def impl_Binary_unitRow.f (a0_0 a0_1 : Int) (l0_2 l0_3 : List (List Int)) (l0_4 : List Int) (l0_5 : List (List Int)) (a1 : Int) : Option (List Int) :=
 if (goodB a0_0 a0_1 l0_2 l0_3 l0_4 l0_5 = true ∧ l0_2.length ≤ 1048576 ∧ l0_3.length ≤ 1048576) ∧ -a0_1 ≤ a1 ∧ a1 < a0_0 then some (rowU a0_0.toNat (pairsU a0_0.toNat l0_4 l0_3 l0_2) a1) else none
set_option maxHeartbeats 8000000 in
set_option maxRecDepth 100000 in
theorem impl_Binary_unitRow.calls (a0_0 a0_1 : Int) (A0_2 : Option Addr) (c0_2 : Nat) (l0_2 : List (List Int)) (A0_3 : Option Addr) (c0_3 : Nat) (l0_3 : List (List Int)) (A0_4 : Option Addr) (c0_4 : Nat) (l0_4 : List Int) (A0_5 : Option Addr) (c0_5 : Nat) (l0_5 : List (List Int)) (a1 : Int) (r : List Int) (w : World)
 (hr0_2 : Kd.C (Kd.slice 3 (Kd.int .i64)) w A0_2 l0_2.length l0_2) (hc0_2 : l0_2.length ≤ c0_2) (hr0_3 : Kd.C (Kd.slice 3 (Kd.int .i64)) w A0_3 l0_3.length l0_3) (hc0_3 : l0_3.length ≤ c0_3) (hr0_4 : Kd.C (Kd.int .i64) w A0_4 l0_4.length l0_4) (hc0_4 : l0_4.length ≤ c0_4) (hr0_5 : Kd.C (Kd.slice 3 (Kd.int .i64)) w A0_5 l0_5.length l0_5) (hc0_5 : l0_5.length ≤ c0_5)
 (h : impl_Binary_unitRow.f a0_0 a0_1 l0_2 l0_3 l0_4 l0_5 a1 = some r) :
 Calls Tryz.prog 57 #[.agg #[.int .i64 a0_0, .int .i64 a0_1, .slice A0_2 l0_2.length c0_2, .slice A0_3 l0_3.length c0_3, .slice A0_4 l0_4.length c0_4, .slice A0_5 l0_5.length c0_5], .int .i64 a1] w fun e w' => ∃ v0_ : Value, e = .returned (v0_) ∧ Kd.R (Kd.int .i64) 3 w' w.heap.size (fun _ => True) v0_ r ∧ Below w.heap.size w w' := by
 have hu := Tryz.underlying32; unfold impl_Binary_unitRow.f at h; by_cases hcd : (goodB a0_0 a0_1 l0_2 l0_3 l0_4 l0_5 = true ∧ l0_2.length ≤ 1048576 ∧ l0_3.length ≤ 1048576) ∧ -a0_1 ≤ a1 ∧ a1 < a0_0
 · rw [if_pos hcd] at h; obtain rfl := Option.some.inj h; obtain ⟨⟨hG, hL2, hL3⟩, hx0, hx1⟩ := hcd; have ok := goodB_ok hG; have hn := ok.n; have ht := ok.t; obtain ⟨n, rfl⟩ : ∃ n : Nat, a0_0 = (n : Int) := ⟨a0_0.toNat, zz1g⟩
   rw [Int.toNat_natCast]; obtain ⟨K, hK⟩ := (unitPairs_ev hG hL2 hL3).rounds; rw [Int.toNat_natCast] at hK; have PI : PairsIn n (pairsU n l0_4 l0_3 l0_2) := fun p hp => by obtain ⟨e1, e2, e3, e4⟩ := pairsU_ok ok hp; exact ⟨e1, e2, e4⟩
   have PL := pairsU_len n l0_4 l0_3 l0_2; obtain ⟨ps, hps⟩ : ∃ ps, ps = pairsU n l0_4 l0_3 l0_2 := ⟨_, rfl⟩
   rw [← hps] at hK PI PL ⊢; have CU := fun (W : World) (hW : Below w.heap.size w W) => impl_Binary_unitPairs.calls K n a0_1 A0_2 c0_2 l0_2 A0_3 c0_3 l0_3 A0_4 c0_4 l0_4 A0_5 c0_5 l0_5 ps W (zS hr0_2 hW) hc0_2 (zS hr0_3 hW) hc0_3 (zS hr0_4 hW) hc0_4 (zS hr0_5 hW) hc0_5 hK
   have PIN := zA PI; have hx40 : a1 < 40 := by omega
   have hxm4 : -4 ≤ a1 := by omega
   have XN := zA (show a1 < (n : Int) from hx1); have hn40 : n ≤ 40 := by omega
   have hpl : ps.length ≤ 3145728 := by omega
   have HB := zA (Below.refl w.heap.size w); clear h hG hL2 hL3 hx0 hx1 ok hn ht hK PI PL hps hr0_2 hc0_2 hr0_3 hc0_3 hr0_4 hc0_4 hr0_5 hc0_5; go_enter Tryz.func57, Tryz.ntmps57; go_wp2_with (first | ((with_reducible refine gate_dst (N := 2) rfl ?_); refine box_event ?hg (N := 2) ?hd (cs := #[.int .i64 (n : Int), .int .i64 a0_1, .slice A0_2 l0_2.length c0_2, .slice A0_3 l0_3.length c0_3, .slice A0_4 l0_4.length c0_4, .slice A0_5 l0_5.length c0_5]) (t := 32) ?hr ?_; (case hd => rfl); (case hg => rfl); (case hr => first | (go_simp; done) | (go_simp; rfl)); intro gb hg w1 hbox hb; have n0_ := zA (zG (zz0q HB) hb); have BB := zA hbox; clear HB hb hbox hg; have HB := n0_; clear n0_; have hb0 : w1.cell? ⟨gb, 0, none⟩ = some (.int .i64 (n : Int)) := (zK BB.out 0).trans rfl; have hb1 : w1.cell? ⟨gb, 1, none⟩ = some (.int .i64 a0_1) := (zK BB.out 1).trans rfl; have hb2 : w1.cell? ⟨gb, 2, none⟩ = some (.slice A0_2 l0_2.length c0_2) := (zK BB.out 2).trans rfl; have hb3 : w1.cell? ⟨gb, 3, none⟩ = some (.slice A0_3 l0_3.length c0_3) := (zK BB.out 3).trans rfl; have hb4 : w1.cell? ⟨gb, 4, none⟩ = some (.slice A0_4 l0_4.length c0_4) := (zK BB.out 4).trans rfl; have hb5 : w1.cell? ⟨gb, 5, none⟩ = some (.slice A0_5 l0_5.length c0_5) := (zK BB.out 5).trans rfl) | (go_at_call 74; (with_reducible refine (CU _ (zz0q HB)).mono ?_); rintro e w2 ⟨v2, rfl, hs2, hb⟩; clear CU; have n0_ := zA (zG (zz0q HB) hb); obtain ⟨A5, c5, ev⟩ := Kd.R_slice (Kd.S_R hs2); subst ev; have HP := zA (Kd.S_reads' hs2).2.2; have HC := zA (Kd.S_reads' hs2).2.1; clear HB hb hs2 BB hb0 hb1 hb2 hb3 hb4 hb5; have HB := n0_; clear n0_; have H2 := zA (Below.refl w2.heap.size w2)) | ((with_reducible refine gate_dst (N := 14) rfl ?_); refine Kd.R_lit (Kd.int .i64) _ 3 ?hg (N := 14) ?hd (xs := ([] : List Int)) (inner := []) (ok := fun _ => True) (okp := fun _ => True) ?hr ?hp (fun _ hk => hk) trivial H2.out (zF H2.out) zz1h ?_; (case hd => rfl); (case hg => rfl); (case hr => first | (go_simp; done) | (go_simp; rfl)); (case hp => exact (Reps.none _ _)); intro u6 w3 ho hb hg_ hnew_; have HO := zA ho; have n0_ := zA hb; have LO := zA (Kd.R_lt ho); clear H2 ho hb hg_ hnew_; have H2 := n0_; clear n0_; have tok1 : True := trivial) | (have _t := tok1; (with_reducible refine made_event rfl 84 3 rfl ?_); intro bm hbm w4 hown hgr; have GE := zA (show w2.heap.size ≤ bm by rw [hbm]; exact zF H2.out); have n0_ := zA (H2.out.grown hgr (zF H2.out) (fun k hk => by cases hk)); have n1_ := zA (Kd.R_below HO.out (below_of_grown hgr)); have OW := zA hown; clear tok1 H2 HO hown hgr hbm; have H2 := n0_; have HO := n1_; clear n0_ n1_; have tok2 : True := trivial) | (have _t := tok2; (with_reducible refine insert_event rfl _ _ _ 84 rfl 3 4 (Go.Maps.int_keyed Tryz.underlying3) Tryz.underlying84 bm 0 (.map []) rfl OW.out ?hn (.int .i64 a1) (.bool true) (.int .i64 a1) rfl rfl ?hk ?_); (case hn => decide); (case hk => exact Go.Maps.keyOf_int_mk Tryz.underlying3 (int_wf zz1g zz1g)); intro w5 hown hgr; have n0_ := zA (H2.out.grown hgr (zF H2.out) (fun k hk => by injection hk with hk; rw [← hk]; exact GE.out)); have n1_ := zA (show Kd.R (Kd.int .i64) 3 w5 w2.heap.size (fun _ => True) u6 [] from Kd.R_mono (Kd.R_grown (Kd.R_tight zz1i HO.out) hgr (fun k hk e => ownsMap_ne (base := 0) (ok := fun _ => True) (xs := []) OW.out (Kd.R_typed HO.out) (e.symm.trans hk))) (fun _ _ => trivial)); have n2_ := zA hown; clear tok2 H2 HO OW hown hgr; have H2 := n0_; have HO := n1_; have OW := n2_; clear n0_ n1_ n2_; have tok3 : True := trivial) | (have _t := tok3; (with_reducible refine gate_dst (N := 19) rfl ?_); refine Kd.R_lit (Kd.int .i64) _ 3 ?hg (N := 19) ?hd (xs := ([a1] : List Int)) (inner := [.int .i64 a1]) (ok := fun k => True ∧ some k ≠ u6.ownBlock) (okp := fun k => True ∧ some k ≠ u6.ownBlock) ?hr ?hp (fun _ hk => hk) ⟨trivial, fun e => by have := Kd.R_lt HO.out _ e.symm; omega⟩ H2.out (zF H2.out) zz1h ?_; (case hd => rfl); (case hg => rfl); (case hr => first | (go_simp; done) | (go_simp; rfl)); (case hp => exact Reps.one (show Kd.M (Kd.int .i64) _ _ _ (a1 : Int) [.int .i64 a1] from rfl) (Reps.none _ _)); intro u8 w6 ho hb hg_ hnew_; clear tok3; have UR := zA (show UrS w2 w6 bm ((DataW.map []).put (.int .i64 a1) (.held (.bool true))) [a1] u6 u8 [] [a1] from ⟨hb, Kd.R_mono (Kd.R_below (Kd.R_bound HO.out) (below_of_grown hg_)) (fun k hk => ⟨trivial, fun e => by obtain ⟨b_, h1_, h2_⟩ := hnew_; rw [h1_] at e; injection e with e; have := hk.2.2.1; omega⟩), Kd.Q_of_R ho, OW.out.kept hg_ zz1h, GE.out, mapS_put mapS_nil a1⟩); clear H2 HO OW ho hb hg_ hnew_)); go_loopg [6, 8] (n + 2) (fun gg s6 s8 wr => ∃ (i : Nat) (S : List Int) (D : DataW Value) (td : List Int), Aside0 (n + 2 - i ≤ gg) ∧ Aside0 (td = S.drop i) ∧ Aside0 (BfsI ps n a1 S i) ∧ Aside0 (UrS w2 wr bm D S s6 s8 ((S.take i).filter fun z => decide (0 ≤ z)) td))
   case atStart => exact ⟨0, [a1], _, [a1], ⟨zz1g⟩, ⟨rfl⟩, ⟨BfsI.start⟩, UR⟩
   case round =>
    clear UR; obtain ⟨i, S, D, td, GG, TD, BI, UR⟩ := hrel; obtain ⟨A8, c8, ev, hc8⟩ := Kd.Q_slice UR.out.hq; subst ev; have hSl := zA (BI.out.len PIN.out); have htl : td.length = S.length - i := by rw [TD.out, List.length_drop]
    by_cases hlt : i < S.length
    · have h0 : 0 < td.length := by omega
      have hd : decide (0 < td.length) = true := decide_eq_true h0; have hdi : decide ((0 : Int) < (td.length : Int)) = true := decide_eq_true zz1g; have hlp : (0 < td.length) = True := eq_true h0; obtain ⟨ay, e, hy0⟩ := Kd.at_int (Kd.Q_reads' UR.out.hq).2.2 0 zz1g zz1g; subst e; rw [show ((0 : Int)).toNat = 0 from rfl, Addr.add_zero'] at hy0; obtain ⟨i0, hi0, _, hsz0, _⟩ := info_parts info3; have hcut0 := cut_from (P := Tryz.prog) 23 3 .i64 Tryz.underlying23 hi0 1 hsz0 (some ay) td.length c8 1 zz1g zz1g; have HQ1 := zA (Kd.Q_drop (k := 1) UR.out.hq zz1g); obtain ⟨A9, hA9⟩ : ∃ A9 : Option Addr, A9 = (if c8 = 1 then some ay else (some ay).map (·.add (1 * 1))) := ⟨_, rfl⟩
      have hcut : ∀ W : World, (Instr.slice 23 (.slice (some ay) td.length c8) (some (.int .i64 1)) none none).run Tryz.prog W = .ok (.slice A9 (td.length - 1) (c8 - 1)) W := fun W => by rw [hcut0 W, hA9]; rfl
      have HQ2 := zA (show Kd.Q (Kd.int .i64) 3 wr w2.heap.size (fun k => True ∧ some k ≠ u6.ownBlock) (.slice A9 (td.length - 1) (c8 - 1)) (td.drop 1) by rw [hA9]; exact HQ1.out); have OB := zA (show (Value.slice A9 (td.length - 1) (c8 - 1)).ownBlock = (Value.slice (some ay) td.length c8).ownBlock ∨ (Value.slice A9 (td.length - 1) (c8 - 1)).ownBlock = none from by
       rw [hA9]; by_cases hc_ : c8 = 1
       · rw [if_pos hc_]; exact .inl rfl
       · rw [if_neg hc_]; left; simp [Value.ownBlock, Addr.add])
      have BJ := zA (BI.out.take hlt); have YS := zA (show rd td 0 = rd S i by rw [TD.out]; unfold rd; rw [Int.toNat_natCast, List.getD_eq_getElem?_getD, List.getElem?_drop, List.getD_eq_getElem?_getD]; rfl); have TK := zA (show (S.take (i + 1)).filter (fun z => decide (0 ≤ z)) = (S.take i).filter (fun z => decide (0 ≤ z)) ++ if 0 ≤ rd S i then [rd S i] else [] by rw [take_getD S i 0 hlt, List.filter_append]; congr 1; have e_ : S.getD i 0 = rd S i := rfl; rw [e_]; exact filter_one (rd S i)); have TD1 := zA (show td.drop 1 = S.drop (i + 1) by rw [TD.out, List.drop_drop]); have UR2 := zA (UR.out.cut OB.out HQ2.out); have LI := zA hlt; have YB := zA (show rd S i < 40 ∧ -4 ≤ rd S i by rcases upR_lt PIN.out (BI.out.up _ (rd_in hlt)) with e | e <;> omega); clear hcut0 HQ1 hA9 hi0 hsz0 HQ2 OB hlt BI; obtain ⟨y, hy⟩ : ∃ y, y = rd S i := ⟨_, rfl⟩
      rw [← hy] at BJ YS TK YB; rw [YS.out] at hy0; clear hy YS; have hy40 : y < 40 := YB.out.1; have hym4 : -4 ≤ y := YB.out.2; have UL := zA (show ((S.take i).filter fun z => decide (0 ≤ z)).length ≤ 41 from Nat.le_trans (List.length_filter_le _ _) (by rw [List.length_take]; have := hSl.out; omega)); by_cases hp : 0 ≤ y
      · have hpd : decide (0 ≤ y) = true := decide_eq_true hp; rw [if_pos hp] at TK; clear UR TD htl h0 YB; go_wp2_with (first | ((with_reducible refine gate_builtin (b := .append) (xs := #[.tmp 30, .tmp 32]) rfl ?_); at_builtin; refine Kd.R_append (Kd.int .i64) (w0 := w2) w2.heap.size rfl (.tmp 30) (.tmp 32) 23 3 (.int .i64 0) 8 rfl Tryz.underlying23 info3 rfl zz1f zz1g u6 ((S.take i).filter fun z => decide (0 ≤ z)) y [.int .i64 y] (fun k => True ∧ some k ≠ (Value.slice A9 (td.length - 1) (c8 - 1)).ownBlock) (fun _ => False) rfl rfl ?aP (fun _ hk => hk.elim) UR2.out.newo UR2.out.ho UR2.out.below (zF UR2.out.below) (zz18 UL) ?_; (case aP => exact rfl); intro v9 w9 ho hb hg hat; have n0_ := zA (UR2.out.addo ho hb hg hat); clear UR2 ho hb hg hat; have UR2 := n0_; clear n0_)); clear hcut hy0 hd hdi hlp; obtain ⟨out, hout⟩ : ∃ out, out = ((S.take i).filter fun z => decide (0 ≤ z)) ++ [y] := ⟨_, rfl⟩
        have TKO := zA (show (S.take (i + 1)).filter (fun z => decide (0 ≤ z)) = out by rw [hout, TK.out]); rw [← hout] at UR2; clear hout TK UL; go_loopg [8, 36] ps.length (fun gg s8 s36 wq => ∃ (kk : Nat) (S2 : List Int) (D2 : DataW Value) (td2 : List Int), kk ≤ ps.length ∧ ps.length - kk ≤ gg ∧ s36 = .int .i64 kk ∧ Aside0 (S2.take (i + 1) = S.take (i + 1)) ∧ Aside0 (td2 = S2.drop (i + 1)) ∧ Aside0 (BfsJ ps n a1 y S2 i kk) ∧ Aside0 (UrS w2 wq bm D2 S2 v9 s8 out td2))
        case atStart => exact ⟨0, S, D, td.drop 1, Nat.zero_le _, zz1g, rfl, ⟨rfl⟩, TD1, BJ, UR2⟩
        case round =>
         clear UR2 BJ TD1; obtain ⟨kk, S2, D2, td2, hkk, hg, rfl, ST, TD2, BJ, UR⟩ := hrel; by_cases hlt : kk < ps.length
         · have hd : decide (kk < ps.length) = true := decide_eq_true hlt; have hdi : decide ((kk : Int) < (ps.length : Int)) = true := decide_eq_true zz1g; obtain ⟨ad, A1, c1, e, hx0, hl1, hi1⟩ := at_L1 HP.out (kk : Int) zz1g zz1g; subst e; have hx1 : wr.cell? (ad.add kk) = some (.slice A1 (rd_L1 ps kk).length c1) := (UR.out.below.cell (World.block_lt_of_cell? w2 _ zz19)).trans zz19; have hmem : rd_L1 ps kk ∈ ps := by unfold rd_L1; rw [Int.toNat_natCast, List.getD_eq_getElem?_getD, List.getElem?_eq_getElem hlt]; exact List.getElem_mem hlt
           obtain ⟨y2, yb0, yb1⟩ := PIN.out _ hmem; have SKP := zA fun h => BJ.out.skip (kk := kk) h
           have PUT := zA fun h1 h2 => BJ.out.put hlt h1 h2
           have GD : ps.getD kk [] = rd_L1 ps kk := rfl; rw [GD] at SKP PUT; have HI := zA (zS hi1 UR.out.below); have L := zA hlt; have BL := zA BJ.out.le; have SL2 := zA (show S2.length ≤ n + 1 from (BfsI.len ⟨BJ.out.nd, BJ.out.st, BJ.out.up, Nat.le_of_lt BJ.out.le, BJ.out.cl⟩ PIN.out)); clear hx0 hi1 hl1 hmem GD BJ; generalize rd_L1 ps kk = z at hx1 y2 yb0 yb1 SKP PUT HI; obtain ⟨az, e, hz0⟩ := Kd.at_int HI.out 0 zz1g zz1g; subst e; obtain ⟨az2, e, hz1⟩ := Kd.at_int HI.out 1 zz1g zz1g; injection e with e; subst e; rw [show ((0 : Int)).toNat = 0 from rfl, Addr.add_zero'] at hz0; (try simp only [show (1 : Int).toNat = 1 from rfl, Nat.reduceMul, Nat.reduceEqDiff, Go.Addr.add, ↓reduceIte] at hz1); have hzl1 : (1 < z.length) = True := eq_true zz1g; have hzl0 : (0 < z.length) = True := eq_true zz1g; have hlook := seen_look (z := rd z 0) UR.out.ow UR.out.ms zz1g zz1g; obtain ⟨z0, hz0e⟩ : ∃ z0 : Nat, rd z 0 = (z0 : Int) := ⟨(rd z 0).toNat, zz1g⟩
           have Z0 := zA hz0e; rw [hz0e] at hz0 hlook yb0; clear hz0e; by_cases h1 : rd z 1 = y
           · have e1 : (rd z 1 == y) = true := by rw [h1]; simp
             have e1d : decide (rd z 1 = y) = true := decide_eq_true h1; by_cases h2 : (z0 : Int) ∈ S2
             · rw [decide_eq_true h2] at hlook; have BJ := zA (SKP.out (.inr (by rw [Z0.out]; exact h2))); clear SKP PUT h2 h1 hzl0; go_wp2
               go_roundg (ps.length - (kk + 1))
               case measure => have := L.out; omega
               case rel => exact ⟨kk + 1, S2, D2, td2, zz18 L, zz1g, zz1e, ST, TD2, BJ, UR⟩
             · rw [decide_eq_false h2] at hlook; have BJ := zA (PUT.out h1 (by rw [Z0.out]; exact h2)); rw [Z0.out] at BJ; have ST2 := zA (show (S2 ++ [(z0 : Int)]).take (i + 1) = S.take (i + 1) by rw [List.take_append_of_le_length (zz18 BL)]; exact ST.out); have TD3 := zA (show td2 ++ [(z0 : Int)] = (S2 ++ [(z0 : Int)]).drop (i + 1) by rw [List.drop_append_of_le_length (zz18 BL), TD2.out]); have TL := zA (show td2.length ≤ 41 by rw [TD2.out, List.length_drop]; have := SL2.out; omega); clear SKP PUT h2 h1; have OLD := zA (show az.block ≠ bm from fun e => by have h_ := World.block_lt_of_cell? wr _ hz0; exact absurd (UR.out.ow) (fun ow => by obtain ⟨es, clock, hb_, _⟩ := ow; rw [← e] at hb_; simp [World.cell?, hb_] at hz0)); go_wp2_with (first | (at_mapUpdate;  refine wpList_mapUpdate_own _ rfl _ _ _ 84 rfl 3 4 (Go.Maps.int_keyed Tryz.underlying3) Tryz.underlying84 asIs bm S2.length D2 rfl UR.out.ow ?hn (.int .i64 (z0 : Int)) (.bool true) (.int .i64 (z0 : Int)) rfl rfl ?hk (.held (.bool true)) [] rfl ?_; (case hn => have h_ := SL2.out; exact Nat.lt_of_le_of_lt h_ (Nat.lt_of_le_of_lt (Nat.succ_le_succ hn40) zz1f)); (case hk => exact Go.Maps.keyOf_int_mk Tryz.underlying3 (int_wf zz1g zz1g)); intro w7 hown hgr; have n0_ := zA (UR.out.seen hown hgr); have hz9 : w7.cell? az = some (.int .i64 (z0 : Int)) := hgr.cell hz0 (fun e => OLD.out (by injection e)); clear hz0 hz1; clear UR hown hgr hlook; have UR := n0_; clear n0_) | ((with_reducible refine gate_builtin (b := .append) (xs := #[.tmp 57, .tmp 61]) rfl ?_); at_builtin; refine Kd.Q_append (Kd.int .i64) (w0 := w2) w2.heap.size rfl (.tmp 57) (.tmp 61) 23 3 (.int .i64 0) 8 rfl Tryz.underlying23 info3 rfl zz1f zz1g u8 td2 (z0 : Int) [.int .i64 (z0 : Int)] (fun k => True ∧ some k ≠ (v9 : Value).ownBlock) (fun _ => False) rfl rfl ?aP (fun _ hk => hk.elim) UR.out.newq UR.out.hq UR.out.below (zF UR.out.below) (zz18 TL) ?_; (case aP => exact rfl); intro v9 w8 ho hb hg hat; have n0_ := zA (UR.out.addq ho hb hg hat); clear UR ho hb hg hat hz9; have UR := n0_; clear n0_))
               go_roundg (ps.length - (kk + 1))
               case measure => have := L.out; omega
               case rel => exact ⟨kk + 1, S2 ++ [(z0 : Int)], _, td2 ++ [(z0 : Int)], zz18 L, zz1g, zz1e, ST2, TD3, BJ, UR⟩
           · have e1 : (rd z 1 == y) = false := by simpa using h1
             have e1d : decide (rd z 1 = y) = false := decide_eq_false h1; have BJ := zA (SKP.out (.inl h1)); clear SKP PUT h1 hlook hz0; go_wp2
             go_roundg (ps.length - (kk + 1))
             case measure => have := L.out; omega
             case rel => exact ⟨kk + 1, S2, D2, td2, zz18 L, zz1g, zz1e, ST, TD2, BJ, UR⟩
         · have hd : decide (kk < ps.length) = false := decide_eq_false hlt; have hdi : decide ((kk : Int) < (ps.length : Int)) = false := decide_eq_false zz1g; have BI := zA (BJ.out.done zz1g); have SLX := zA (BJ.out.le); have SLY := zA (BI.out.len PIN.out); have UR3 := zA (show UrS w2 wr bm D2 S2 v9 u8 ((S2.take (i + 1)).filter fun z => decide (0 ≤ z)) td2 by rw [ST.out, TKO.out]; exact UR.out); clear hlt BJ UR; go_wp2
           go_roundg (n + 1 - i)
           case measure => have h1 := GG.out; have h2 := SLX.out; have h3 := SLY.out; omega
           case rel => exact ⟨i + 1, S2, D2, td2, ⟨zz1g⟩, TD2, BI, UR3⟩
      · have hpd : decide (0 ≤ y) = false := decide_eq_false hp; rw [if_neg hp] at TK; clear UR TD htl h0 YB; go_wp2; clear hcut hy0 hd hdi hlp; obtain ⟨out, hout⟩ : ∃ out, out = (S.take i).filter fun z => decide (0 ≤ z) := ⟨_, rfl⟩
        have TKO := zA (show (S.take (i + 1)).filter (fun z => decide (0 ≤ z)) = out by rw [hout, TK.out, List.append_nil]); rw [← hout] at UR2; clear hout TK UL; go_loopg [8, 36] ps.length (fun gg s8 s36 wq => ∃ (kk : Nat) (S2 : List Int) (D2 : DataW Value) (td2 : List Int), kk ≤ ps.length ∧ ps.length - kk ≤ gg ∧ s36 = .int .i64 kk ∧ Aside0 (S2.take (i + 1) = S.take (i + 1)) ∧ Aside0 (td2 = S2.drop (i + 1)) ∧ Aside0 (BfsJ ps n a1 y S2 i kk) ∧ Aside0 (UrS w2 wq bm D2 S2 u6 s8 out td2))
        case atStart => exact ⟨0, S, D, td.drop 1, Nat.zero_le _, zz1g, rfl, ⟨rfl⟩, TD1, BJ, UR2⟩
        case round =>
         clear UR2 BJ TD1; obtain ⟨kk, S2, D2, td2, hkk, hg, rfl, ST, TD2, BJ, UR⟩ := hrel; by_cases hlt : kk < ps.length
         · have hd : decide (kk < ps.length) = true := decide_eq_true hlt; have hdi : decide ((kk : Int) < (ps.length : Int)) = true := decide_eq_true zz1g; obtain ⟨ad, A1, c1, e, hx0, hl1, hi1⟩ := at_L1 HP.out (kk : Int) zz1g zz1g; subst e; have hx1 : wr.cell? (ad.add kk) = some (.slice A1 (rd_L1 ps kk).length c1) := (UR.out.below.cell (World.block_lt_of_cell? w2 _ zz19)).trans zz19; have hmem : rd_L1 ps kk ∈ ps := by unfold rd_L1; rw [Int.toNat_natCast, List.getD_eq_getElem?_getD, List.getElem?_eq_getElem hlt]; exact List.getElem_mem hlt
           obtain ⟨y2, yb0, yb1⟩ := PIN.out _ hmem; have SKP := zA fun h => BJ.out.skip (kk := kk) h
           have PUT := zA fun h1 h2 => BJ.out.put hlt h1 h2
           have GD : ps.getD kk [] = rd_L1 ps kk := rfl; rw [GD] at SKP PUT; have HI := zA (zS hi1 UR.out.below); have L := zA hlt; have BL := zA BJ.out.le; have SL2 := zA (show S2.length ≤ n + 1 from (BfsI.len ⟨BJ.out.nd, BJ.out.st, BJ.out.up, Nat.le_of_lt BJ.out.le, BJ.out.cl⟩ PIN.out)); clear hx0 hi1 hl1 hmem GD BJ; generalize rd_L1 ps kk = z at hx1 y2 yb0 yb1 SKP PUT HI; obtain ⟨az, e, hz0⟩ := Kd.at_int HI.out 0 zz1g zz1g; subst e; obtain ⟨az2, e, hz1⟩ := Kd.at_int HI.out 1 zz1g zz1g; injection e with e; subst e; rw [show ((0 : Int)).toNat = 0 from rfl, Addr.add_zero'] at hz0; (try simp only [show (1 : Int).toNat = 1 from rfl, Nat.reduceMul, Nat.reduceEqDiff, Go.Addr.add, ↓reduceIte] at hz1); have hzl1 : (1 < z.length) = True := eq_true zz1g; have hzl0 : (0 < z.length) = True := eq_true zz1g; have hlook := seen_look (z := rd z 0) UR.out.ow UR.out.ms zz1g zz1g; obtain ⟨z0, hz0e⟩ : ∃ z0 : Nat, rd z 0 = (z0 : Int) := ⟨(rd z 0).toNat, zz1g⟩
           have Z0 := zA hz0e; rw [hz0e] at hz0 hlook yb0; clear hz0e; by_cases h1 : rd z 1 = y
           · have e1 : (rd z 1 == y) = true := by rw [h1]; simp
             have e1d : decide (rd z 1 = y) = true := decide_eq_true h1; by_cases h2 : (z0 : Int) ∈ S2
             · rw [decide_eq_true h2] at hlook; have BJ := zA (SKP.out (.inr (by rw [Z0.out]; exact h2))); clear SKP PUT h2 h1 hzl0; go_wp2
               go_roundg (ps.length - (kk + 1))
               case measure => have := L.out; omega
               case rel => exact ⟨kk + 1, S2, D2, td2, zz18 L, zz1g, zz1e, ST, TD2, BJ, UR⟩
             · rw [decide_eq_false h2] at hlook; have BJ := zA (PUT.out h1 (by rw [Z0.out]; exact h2)); rw [Z0.out] at BJ; have ST2 := zA (show (S2 ++ [(z0 : Int)]).take (i + 1) = S.take (i + 1) by rw [List.take_append_of_le_length (zz18 BL)]; exact ST.out); have TD3 := zA (show td2 ++ [(z0 : Int)] = (S2 ++ [(z0 : Int)]).drop (i + 1) by rw [List.drop_append_of_le_length (zz18 BL), TD2.out]); have TL := zA (show td2.length ≤ 41 by rw [TD2.out, List.length_drop]; have := SL2.out; omega); clear SKP PUT h2 h1; have OLD := zA (show az.block ≠ bm from fun e => by have h_ := World.block_lt_of_cell? wr _ hz0; exact absurd (UR.out.ow) (fun ow => by obtain ⟨es, clock, hb_, _⟩ := ow; rw [← e] at hb_; simp [World.cell?, hb_] at hz0)); go_wp2_with (first | (at_mapUpdate;  refine wpList_mapUpdate_own _ rfl _ _ _ 84 rfl 3 4 (Go.Maps.int_keyed Tryz.underlying3) Tryz.underlying84 asIs bm S2.length D2 rfl UR.out.ow ?hn (.int .i64 (z0 : Int)) (.bool true) (.int .i64 (z0 : Int)) rfl rfl ?hk (.held (.bool true)) [] rfl ?_; (case hn => have h_ := SL2.out; exact Nat.lt_of_le_of_lt h_ (Nat.lt_of_le_of_lt (Nat.succ_le_succ hn40) zz1f)); (case hk => exact Go.Maps.keyOf_int_mk Tryz.underlying3 (int_wf zz1g zz1g)); intro w7 hown hgr; have n0_ := zA (UR.out.seen hown hgr); have hz9 : w7.cell? az = some (.int .i64 (z0 : Int)) := hgr.cell hz0 (fun e => OLD.out (by injection e)); clear hz0 hz1; clear UR hown hgr hlook; have UR := n0_; clear n0_) | ((with_reducible refine gate_builtin (b := .append) (xs := #[.tmp 57, .tmp 61]) rfl ?_); at_builtin; refine Kd.Q_append (Kd.int .i64) (w0 := w2) w2.heap.size rfl (.tmp 57) (.tmp 61) 23 3 (.int .i64 0) 8 rfl Tryz.underlying23 info3 rfl zz1f zz1g u8 td2 (z0 : Int) [.int .i64 (z0 : Int)] (fun k => True ∧ some k ≠ (u6 : Value).ownBlock) (fun _ => False) rfl rfl ?aP (fun _ hk => hk.elim) UR.out.newq UR.out.hq UR.out.below (zF UR.out.below) (zz18 TL) ?_; (case aP => exact rfl); intro v9 w8 ho hb hg hat; have n0_ := zA (UR.out.addq ho hb hg hat); clear UR ho hb hg hat hz9; have UR := n0_; clear n0_))
               go_roundg (ps.length - (kk + 1))
               case measure => have := L.out; omega
               case rel => exact ⟨kk + 1, S2 ++ [(z0 : Int)], _, td2 ++ [(z0 : Int)], zz18 L, zz1g, zz1e, ST2, TD3, BJ, UR⟩
           · have e1 : (rd z 1 == y) = false := by simpa using h1
             have e1d : decide (rd z 1 = y) = false := decide_eq_false h1; have BJ := zA (SKP.out (.inl h1)); clear SKP PUT h1 hlook hz0; go_wp2
             go_roundg (ps.length - (kk + 1))
             case measure => have := L.out; omega
             case rel => exact ⟨kk + 1, S2, D2, td2, zz18 L, zz1g, zz1e, ST, TD2, BJ, UR⟩
         · have hd : decide (kk < ps.length) = false := decide_eq_false hlt; have hdi : decide ((kk : Int) < (ps.length : Int)) = false := decide_eq_false zz1g; have BI := zA (BJ.out.done zz1g); have SLX := zA (BJ.out.le); have SLY := zA (BI.out.len PIN.out); have UR3 := zA (show UrS w2 wr bm D2 S2 u6 u8 ((S2.take (i + 1)).filter fun z => decide (0 ≤ z)) td2 by rw [ST.out, TKO.out]; exact UR.out); clear hlt BJ UR; go_wp2
           go_roundg (n + 1 - i)
           case measure => have h1 := GG.out; have h2 := SLX.out; have h3 := SLY.out; omega
           case rel => exact ⟨i + 1, S2, D2, td2, ⟨zz1g⟩, TD2, BI, UR3⟩
    · have h0 : td.length = 0 := by omega
      have hd : decide (0 < td.length) = false := decide_eq_false zz1g; have hdi : decide ((0 : Int) < (td.length : Int)) = false := decide_eq_false zz1g; have FIN := zA (BI.out.fin zz1g PIN.out XN.out); have OL := zA (show ((S.take i).filter fun z => decide (0 ≤ z)).length < 4611686018427387904 from Nat.lt_of_le_of_lt (Nat.le_trans (List.length_filter_le _ _) (List.length_take_le _ _)) (by have h1 := BI.out.le; have h2 := hSl.out; omega)); have CS := slices_Sort_int_int.calls (fun k => True ∧ some k ≠ (Value.slice A8 td.length c8).ownBlock) u6 ((S.take i).filter fun z => decide (0 ≤ z)) (rowU n ps a1) w2 wr UR.out.below UR.out.ho (by unfold slices_Sort_int_int.f; rw [if_pos OL.out, FIN.out]); clear hlt h0 htl FIN UR; go_wp2_with (go_at_call 75; (with_reducible refine CS.mono ?_); rintro e w9 ⟨rfl, ho, hb, hk⟩; clear CS; have HO9 := zA ho; have HB9 := zA hb; clear ho hb hk); go_ret; exact ⟨_, rfl, Kd.R_mono (Kd.R_lower HO9.out (zF HB.out)) (fun _ _ => trivial), zG HB.out HB9.out⟩
 · rw [if_neg hcd] at h; cases h
end Go.Proofs.YtkocahlifffgjaaGreat.P
namespace Go.Proofs.YtkocahlifffgjaaGreat.P
open Go.RowKit Go.Proofs.YtkocahlifffgjaaGreatW.PrintWords Go.Proofs.YtkocahlifffgjaaGreatW.PrintLast Go.Proofs.YtkocahlifffgjaaGreatW.PrintMore
attribute [local go_sem] max2_int min2_int max_two min_two max_three min_three max_four min_four
set_option linter.unusedVariables false
set_option linter.unusedSimpArgs false
def impl_union.f (l0 : List Int) (l1 : List Int) : Option (List Int) := (some (([] : List Int) : List Int)).bind fun du => (if du.length + l0.length < 17592186044416 then ((some (du ++ l0 : List Int)).bind fun fP => (if fP.length + l1.length < 17592186044416 then ((slices_Sort_int_int.f (fP ++ l1)).bind fun cw => ((slices_Compact_int_int.f cw).bind fun e0 => (some e0))) else (none))) else (none))
set_option maxHeartbeats 8000000 in
set_option maxRecDepth 100000 in
theorem impl_union.calls (A0 : Option Addr) (c0 : Nat) (l0 : List Int) (A1 : Option Addr) (c1 : Nat) (l1 : List Int) (r : List Int) (w : World) (dy : Kd.C (Kd.int .i64) w A0 l0.length l0) (dz : l0.length ≤ c0) (fJ : Kd.C (Kd.int .i64) w A1 l1.length l1) (fK : l1.length ≤ c1) (h : impl_union.f l0 l1 = some r) :
 Calls Tryz.prog 77 #[.slice A0 l0.length c0, .slice A1 l1.length c1] w fun e w' => ∃ et : Value, e = .returned (et) ∧ Kd.R (Kd.int .i64) 3 w' w.heap.size (fun _ => True) et r ∧ Below w.heap.size w w' := by
 have dq := zA dy; have hZ := zA dz; clear dy dz; have fV := zA fJ; have lb := zA fK; clear fJ fK; have HB := zA (Below.refl w.heap.size w); have H : ((some (([] : List Int) : List Int)).bind fun du => (if du.length + l0.length < 17592186044416 then ((some (du ++ l0 : List Int)).bind fun fP => (if fP.length + l1.length < 17592186044416 then ((slices_Sort_int_int.f (fP ++ l1)).bind fun cw => ((slices_Compact_int_int.f cw).bind fun e0 => (some e0))) else (none))) else (none))) = some r := h; clear h; obtain ⟨du, e_y⟩ : ∃ y_ : List Int, y_ = (([] : List Int)) := ⟨_, rfl⟩
 replace H : (if du.length + l0.length < 17592186044416 then ((some (du ++ l0 : List Int)).bind fun fP => (if fP.length + l1.length < 17592186044416 then ((slices_Sort_int_int.f (fP ++ l1)).bind fun cw => ((slices_Compact_int_int.f cw).bind fun e0 => (some e0))) else (none))) else (none)) = some r := zz02
 have eM := zA e_y; clear e_y; replace H := zIn H; obtain ⟨c3, H⟩ := H; have LMc3 := zA c3; clear c3; obtain ⟨fP, e_y⟩ : ∃ y_ : List Int, y_ = (du ++ l0) := ⟨_, rfl⟩
 replace H : (if fP.length + l1.length < 17592186044416 then ((slices_Sort_int_int.f (fP ++ l1)).bind fun cw => ((slices_Compact_int_int.f cw).bind fun e0 => (some e0))) else (none)) = some r := zz02
 have lv := zA e_y; clear e_y; replace H := zIn H; obtain ⟨c4, H⟩ := H; have LMc4 := zA c4; clear c4; obtain ⟨jp, e_y⟩ : ∃ y_ : List Int, y_ = (fP ++ l1) := ⟨_, rfl⟩
 replace H : ((slices_Sort_int_int.f jp).bind fun cw => ((slices_Compact_int_int.f cw).bind fun e0 => (some e0))) = some r := zz02
 have Ny107 := zA e_y; clear e_y; replace H := Option.bind_eq_some_iff.mp H; obtain ⟨cw, pu, H⟩ := H; have A5 := zA pu; clear pu; replace H := Option.bind_eq_some_iff.mp H; obtain ⟨e0, gx, H⟩ := H; have A6 := zA gx; clear gx; obtain rfl := Option.some.inj H; go_enter Tryz.func77, Tryz.ntmps77; go_wp2_with (first | ((with_reducible refine gate_dst (N := 6) rfl ?_); refine Kd.R_lit (Kd.int .i64) _ 3 ?hg (N := 6) ?hd (xs := ([] : List Int)) (inner := []) (ok := fun _ => True) (okp := fun _ => True) ?hr ?hp (fun _ hk => hk) trivial (Below.refl _ _) (Nat.le_refl _) zz1h ?_; (case hd => rfl); (case hg => rfl); (case hr => first | (go_simp; done) | (go_simp; rfl)); (case hp => exact (Reps.none _ _)); intro iT w7 qd hb hg_ hnew_; clear hg_ hnew_; (first | rw [← eM.out] at qd | (simp only [Int.reduceToNat] at qd; rw [← eM.out] at qd)); have fr := zA (Kd.R_lower qd (zF (zz0q HB))); replace HB := zA (zG (zz0q HB) hb); clear hb qd) | ((with_reducible refine gate_builtin (b := .append) (xs := #[.tmp 6, .tmp 7]) rfl ?_); at_builtin; refine Kd.R_append_rows (Kd.int .i64) (w0 := w) w.heap.size rfl (.tmp 6) (.tmp 7) 23 3 (.int .i64 0) 8 rfl Tryz.underlying23 info3 rfl zz1f zz1g iT du l0 _ _ _ (fun _ => True) (fun _ => False) rfl rfl ?aO ?aR (fun _ _ h => h) (fun _ h => h.elim) ?aF ?aB ?aS ?aL ?_; (case aR => exact (zz0t dq HB)); (case aB => exact (zz0q HB)); (case aF => exact (fun _ _ => trivial)); (case aO => exact (zz0u fr)); (case aS => exact (zF (zz0q HB))); (case aL => have := LMc3.out; omega); intro li w9 ho hb hg hat; rw [← lv.out] at ho; replace HB := zA (hb); have da := zA (ho); clear fr; clear ho hb hg hat) | ((with_reducible refine gate_builtin (b := .append) (xs := #[.tmp 8, .tmp 9]) rfl ?_); at_builtin; refine Kd.R_append_rows (Kd.int .i64) (w0 := w) w.heap.size rfl (.tmp 8) (.tmp 9) 23 3 (.int .i64 0) 8 rfl Tryz.underlying23 info3 rfl zz1f zz1g li fP l1 _ _ _ (fun _ => True) (fun _ => False) rfl rfl ?aO ?aR (fun _ _ h => h) (fun _ h => h.elim) ?aF ?aB ?aS ?aL ?_; (case aR => exact (zz0t fV HB)); (case aB => exact (zz0q HB)); (case aF => exact (fun _ _ => trivial)); (case aO => exact (zz0u da)); (case aS => exact (zF (zz0q HB))); (case aL => have := LMc4.out; omega); intro oa w10 ho hb hg hat; rw [← Ny107.out] at ho; replace HB := zA (hb); have cU := zA (ho); clear da; clear ho hb hg hat; obtain ⟨jn, jo, pc⟩ := Kd.R_slice cU.out; subst pc) | ((with_reducible refine gate_callee (f := 75) rfl ?_); refine goesL_ (some 12) rfl rfl Tryz.func75 zz1c rfl #[.slice jn jp.length jo] rfl zz0d ?_; (with_reducible refine (slices_Sort_int_int.calls (fun k_ => some k_ = (.slice jn jp.length jo : Value).ownBlock) (.slice jn jp.length jo) jp cw w _ ?aj ?ak A5.out).mono ?_); (case aj => repeat (first | (with_reducible first | exact HB.out | apply zB | apply zC | apply zD) | exact HB.out)); (case ak => exact Kd.R_tight rfl cU.out); rintro e kR ⟨rfl, rk, hb, hkp⟩; refine ⟨_, rfl, ?_⟩; replace cU := zA (Kd.R_reok rfl rk (fun k_ e_ => cU.out.1 k_ e_)); replace HB := zA (hb); (try clear hb); (try clear hkp); (try clear rk)) | ((with_reducible refine gate_callee (f := 89) rfl ?_); refine goesL_ (some 14) rfl rfl Tryz.func89 zz1c rfl #[.slice jn jp.length jo] rfl zz0d ?_; (with_reducible refine (slices_Compact_int_int.calls (fun k_ => some k_ = (.slice jn jp.length jo : Value).ownBlock) (.slice jn jp.length jo) cw e0 w _ ?aj ?ak A6.out).mono ?_); (case aj => repeat (first | (with_reducible first | exact HB.out | apply zB | apply zC | apply zD) | exact HB.out)); (case ak => exact Kd.R_tight rfl cU.out); rintro e mu ⟨v112, rfl, cj, hb, hkp⟩; refine ⟨_, rfl, ?_⟩; have mo := zA (Kd.R_mono (ok' := fun k_ => True) cj (fun k_ hk_ => trivial)); replace HB := zA (hb); clear cU; (try clear hb); (try clear hkp); (try clear cj))); go_ret; exact ⟨_, zz0r, zz0u mo, zz0q HB⟩
def impl_Binary_closedSet.l0 : Nat → List Int → List Int → Int → Int → Int → Int → List (List Int) → List (List Int) → List Int → List (List Int) → Option (List Int)
 | 0, _, _, _, _, _, _, _, _, _, _ => none
 | k + 1, x5, x9, lc, ek, aY, aV, aM, aW, a6, aZ => if ek < lc then (if 0 ≤ ek then (if ek < (x9.length : Int) then ((impl_Binary_unitRow.f aY aV aM aW a6 aZ (rd x9 ek)).bind fun cp => ((impl_union.f x5 cp).bind fun fQ => (impl_Binary_closedSet.l0 k fQ x9 lc (wrap64 (ek + 1)) aY aV aM aW a6 aZ))) else (none)) else (none)) else (some x5)
def impl_Binary_closedSet.f (k : Nat) (ae : Int) (al : Int) (ab : List (List Int)) (af : List (List Int)) (ai : List Int) (ah : List (List Int)) (l1 : List Int) : Option (List Int) := impl_Binary_closedSet.l0 k (([] : List Int)) l1 (l1.length : Int) 0 ae al ab af ai ah
set_option maxHeartbeats 8000000 in
set_option maxRecDepth 100000 in
theorem impl_Binary_closedSet.calls (k : Nat) (ae : Int) (al : Int) (az : Option Addr) (aq : Nat) (ab : List (List Int)) (ay : Option Addr) (av : Nat) (af : List (List Int)) (ar : Option Addr) (au : Nat) (ai : List Int) (aw : Option Addr) (ax : Nat) (ah : List (List Int)) (A1 : Option Addr) (c1 : Nat) (l1 : List Int) (r : List Int) (w : World) (bX : Kd.C (Kd.slice 3 (Kd.int .i64)) w az ab.length ab) (bY : ab.length ≤ aq) (bZ : Kd.C (Kd.slice 3 (Kd.int .i64)) w ay af.length af) (b0 : af.length ≤ av) (b1 : Kd.C (Kd.int .i64) w ar ai.length ai) (b2 : ai.length ≤ au) (b3 : Kd.C (Kd.slice 3 (Kd.int .i64)) w aw ah.length ah) (b4 : ah.length ≤ ax) (fJ : Kd.C (Kd.int .i64) w A1 l1.length l1) (fK : l1.length ≤ c1) (h : impl_Binary_closedSet.f k ae al ab af ai ah l1 = some r) :
 Calls Tryz.prog 60 #[.agg #[.int .i64 ae, .int .i64 al, .slice az ab.length aq, .slice ay af.length av, .slice ar ai.length au, .slice aw ah.length ax], .slice A1 l1.length c1] w fun e w' => ∃ et : Value, e = .returned (et) ∧ Kd.R (Kd.int .i64) 3 w' w.heap.size (fun _ => True) et r ∧ Below w.heap.size w w' := by
 have hu32 := Tryz.underlying32; have bs := zA bX; have bw := zA bY; clear bX bY; have bt := zA bZ; have bz := zA b0; clear bZ b0; have bA := zA b1; have bB := zA b2; clear b1 b2; have bC := zA b3; have bI := zA b4; clear b3 b4; have fV := zA fJ; have lb := zA fK; clear fJ fK; have HB := zA (Below.refl w.heap.size w); have H : (impl_Binary_closedSet.l0 k (([] : List Int)) l1 (l1.length : Int) 0 ae al ab af ai ah) = some r := h; clear h; obtain ⟨qe, e_y⟩ : ∃ y_ : List Int, y_ = (([] : List Int)) := ⟨_, rfl⟩
 replace H : (impl_Binary_closedSet.l0 k qe l1 (l1.length : Int) 0 ae al ab af ai ah) = some r := zz02
 have nX := zA e_y; clear e_y; have H' := zA H; clear H; go_enter Tryz.func60, Tryz.ntmps60; go_wp2_with (first | ((with_reducible refine gate_dst (N := 2) rfl ?_); refine box_event ?hg (N := 2) ?hd (cs := #[.int .i64 ae, .int .i64 al, .slice az ab.length aq, .slice ay af.length av, .slice ar ai.length au, .slice aw ah.length ax]) (t := 32) ?hr ?_; (case hd => rfl); (case hg => rfl); (case hr => first | (go_simp; done) | (go_simp; rfl)); intro ad hg w3 hbox hb; have aa := zA (hbox); have bD := zA ((by rw [hg]; exact (zF (zz0q HB)) : w.heap.size ≤ ad)); have ac := zA ((by rw [hg]; exact (zF (zz0q HB)) : w.heap.size ≤ ad)); replace HB := zA (zG (zz0q HB) hb); clear hb hbox hg) | ((with_reducible refine gate_dst (N := 8) rfl ?_); refine Kd.R_lit (Kd.int .i64) _ 3 ?hg (N := 8) ?hd (xs := ([] : List Int)) (inner := []) (ok := fun _ => True) (okp := fun _ => True) ?hr ?hp (fun _ hk => hk) trivial (Below.refl _ _) (Nat.le_refl _) zz1h ?_; (case hd => rfl); (case hg => rfl); (case hr => first | (go_simp; done) | (go_simp; rfl)); (case hp => exact (Reps.none _ _)); intro e1 w4 iU hb hg_ hnew_; clear hg_ hnew_; (first | rw [← nX.out] at iU | (simp only [Int.reduceToNat] at iU; rw [← nX.out] at iU)); have d3 := zA (Kd.R_lower iU (zF (zz0h HB ac))); replace aa := zA (zMp aa.out hb); replace HB := zA (zG (zz0h HB ac) hb); clear hb iU)); go_loopg [5, 11] k (fun kq v5 jv w' => ∃ (ao : List Int) (aE : Int), jv = .int .i64 aE ∧ Aside0 (impl_Binary_closedSet.l0 kq ao l1 (l1.length : Int) aE ae al ab af ai ah = some r) ∧ Aside0 (kq ≤ k) ∧ Aside0 (Kd.R (Kd.int .i64) 3 w' w.heap.size (fun _ => True) v5 ao) ∧ Aside0 (w'.heap[ad]? = some (.cells #[.int .i64 ae, .int .i64 al, (.slice az ab.length aq), (.slice ay af.length av), (.slice ar ai.length au), (.slice aw ah.length ax)] 32 (0, 0))) ∧ Aside0 (Below w.heap.size w w'))
 case atStart => exact ⟨(qe), (0), zz0y, H', ⟨Nat.le_refl _⟩, ⟨zz0u d3⟩, ⟨zz0s aa⟩, ⟨zz0h HB ac⟩⟩
 case round =>
  clear H'; (try clear c1); (try clear p2); obtain ⟨ao, aE, rfl, HA, bJ, cR, aa, HB⟩ := hrel; cases gk with
  | zero => exact absurd HA.out (by simp [impl_Binary_closedSet.l0])
  | succ k1 =>
   have H := HA.out; clear HA; simp only [impl_Binary_closedSet.l0] at H; by_cases c6 : aE < (l1.length : Int)
   · rw [if_pos c6] at H; have dt := decide_eq_true c6; clear c6; replace H := zIn H; obtain ⟨c7, H⟩ := H; have dA : decide (0 ≤ aE) = true := decide_eq_true c7; clear c7; replace H := zIn H; obtain ⟨c8, H⟩ := H; have dY : decide (aE < (l1.length : Int)) = true := decide_eq_true c8; clear c8; replace H := Option.bind_eq_some_iff.mp H; obtain ⟨cp, lW, H⟩ := H; have A9 := zA lW; clear lW; replace H := Option.bind_eq_some_iff.mp H; obtain ⟨fQ, fw, H⟩ := H; have iS := zA fw; clear fw; have H' := zA H; clear H; have b8 : 0 ≤ (aE : Int) := of_decide_eq_true zz1b; have b9 : aE < (l1.length : Int) := of_decide_eq_true zz1b; obtain ⟨dP, dC, aG⟩ := Kd.at_int fV.out aE b8 b9; cases dC; replace aG := (HB.out.cell (World.block_lt_of_cell? w _ aG)).trans aG; replace b8 := eq_true b8; replace b9 := eq_true b9; obtain ⟨hcz11_0, hcz11_1, hcz11_2, hcz11_3, hcz11_4, hcz11_5⟩ := zk6 aa.out; go_wp2_with (first | ((with_reducible refine gate_callee (f := 57) rfl ?_); refine goesL_ (some 18) rfl rfl Tryz.func57 zz1c rfl #[.agg #[.int .i64 ae, .int .i64 al, .slice az ab.length aq, .slice ay af.length av, .slice ar ai.length au, .slice aw ah.length ax], .int .i64 (rd l1 aE)] rfl zz0d ?_; (with_reducible refine (impl_Binary_unitRow.calls ae al _ _ ab _ _ af _ _ ai _ _ ah (rd l1 aE) cp _ ?aj ?ak ?aI ?aJ ?bh ?bi ?bj ?bk A9.out).mono ?_); (case aj => exact (zz0t bs HB)); (case ak => exact bw.out); (case aI => exact (zz0t bt HB)); (case aJ => exact bz.out); (case bh => exact (zz0t bA HB)); (case bi => exact bB.out); (case bj => exact (zz0t bC HB)); (case bk => exact bI.out); rintro e kR ⟨p4, rfl, cj, hb⟩; refine ⟨_, rfl, ?_⟩; have ei := zA (Kd.R_lower (Kd.R_new' cj (Kd.R_lt (zz0u cR))) (zF (zz0h HB ac))); replace cR := zA (Kd.R_elder' (zz0u cR) (Kd.R_base cj) hb); replace aa := zA (zMp aa.out hb); replace HB := zA (zG (zz0h HB ac) hb); (try clear hb); (try clear hb2); (try clear hk); (try clear hi); (try clear cj); obtain ⟨k9, jQ, l7⟩ := Kd.R_slice cR.out; subst l7; obtain ⟨jz, jA, lD⟩ := Kd.R_slice ei.out; subst lD) | ((with_reducible refine gate_callee (f := 77) rfl ?_); refine goesL_ (some 19) rfl rfl Tryz.func77 zz1c rfl #[.slice k9 ao.length jQ, .slice jz cp.length jA] rfl zz0d ?_; (with_reducible refine (impl_union.calls _ _ ao _ _ cp fQ _ ?aj ?ak ?aI ?aJ iS.out).mono ?_); (case aj => repeat (first | exact (Kd.R_reads' cR.out).2.2 | refine zP ?_ _ | refine zQ ?_ _ | refine zR ?_)); (case ak => exact (Kd.R_reads' cR.out).2.1); (case aI => repeat (first | exact (Kd.R_reads' ei.out).2.2 | refine zP ?_ _ | refine zQ ?_ _ | refine zR ?_)); (case aJ => exact (Kd.R_reads' ei.out).2.1); rintro e qv ⟨ow, rfl, cj, hb⟩; refine ⟨_, rfl, ?_⟩; have gC := zA (Kd.R_lower (Kd.R_new' (Kd.R_new' cj (Kd.R_lt (zz0u cR))) (Kd.R_lt (zz0u ei))) (zF (zz0h HB ac))); replace cR := zA (Kd.R_elder' (zz0u cR) (Kd.R_base cj) hb); replace ei := zA (Kd.R_elder' (zz0u ei) (Kd.R_base cj) hb); replace aa := zA (zMp aa.out hb); replace HB := zA (zG (zz0h HB ac) hb); (try clear hb); (try clear hb2); (try clear hk); (try clear hi); (try clear cj)))
     go_roundg k1
     case measure => have := bJ.out; omega
     case rel => exact ⟨(fQ), (wrap64 (aE + 1)), zz0y, H', ⟨zz18 bJ⟩, ⟨zz0i gC⟩, ⟨zz0s aa⟩, ⟨zz0h HB ac⟩⟩
   · rw [if_neg c6] at H; have dt := decide_eq_false c6; clear c6; obtain rfl := Option.some.inj H; go_wp2; go_ret; exact ⟨_, zz0r, zz0u cR, zz0h HB ac⟩
end Go.Proofs.YtkocahlifffgjaaGreat.P
namespace Go.Proofs.YtkocahlifffgjaaGreat.P
open Go.RowKit Go.Proofs.YtkocahlifffgjaaGreatW.PrintWords
set_option linter.unusedVariables false
set_option linter.unusedSimpArgs false
theorem unionC_eq (a b : List Int) (h : a.length + b.length < 17592186044416) : impl_union.f a b = some (sortI (a ++ b)) := by
 unfold impl_union.f slices_Sort_int_int.f slices_Compact_int_int.f; simp only [Option.bind_some, List.length_nil, List.nil_append]; rw [if_pos zz1g, if_pos h, if_pos (by rw [List.length_append]; omega)]; simp only [Option.bind_some]; rw [if_pos (by rw [mergeI_len, List.length_append]; omega)]; simp only [Option.bind_some]; rw [compact_sort]
def closeU (n : Nat) (ps : List (List Int)) (out : List Int) (l : List Int) : List Int := l.foldl (fun o x => sortI (o ++ rowU n ps x)) out
structure ClI (n : Nat) (out : List Int) : Prop where
 up : UpI out
 rg : ∀ x, x ∈ out → 0 ≤ x ∧ x < n
theorem ClI.len {n : Nat} {out : List Int} (h : ClI n out) : out.length ≤ n := by
 have := upI_len out 0 n h.up h.rg zz1g; omega
theorem ClI.join {n : Nat} {ps : List (List Int)} (hP : PairsIn n ps) {out : List Int} (h : ClI n out) {x : Int} (hx : x < n) : ClI n (sortI (out ++ rowU n ps x)) :=
 ⟨sortI_up _, fun z hz => by
  rw [mem_sortI, List.mem_append] at hz; rcases hz with e | e
  · exact h.rg z e
  · obtain ⟨h0, hu⟩ := (mem_rowU hP hx z).1 e; rcases upR_lt hP hu with e | e
    · omega
    · exact e⟩
theorem closeU_ok {n : Nat} {ps : List (List Int)} (hP : PairsIn n ps) : ∀ (l out : List Int), ClI n out → (∀ x, x ∈ l → x < n) → ClI n (closeU n ps out l) ∧ ∀ z, z ∈ closeU n ps out l ↔ z ∈ out ∨ ∃ x, x ∈ l ∧ z ∈ rowU n ps x
 | [], out, h, _ => ⟨h, fun z => by unfold closeU; simp⟩
 | x :: l, out, h, hl => by
  have hx := hl x List.mem_cons_self; obtain ⟨h1, h2⟩ := closeU_ok hP l (sortI (out ++ rowU n ps x)) (h.join hP hx) (fun y hy => hl y (List.mem_cons_of_mem _ hy)); refine ⟨h1, fun z => (h2 z).trans ?_⟩; rw [mem_sortI, List.mem_append]; constructor
  · rintro ((e | e) | ⟨y, hy, e⟩)
    · exact .inl e
    · exact .inr ⟨x, List.mem_cons_self, e⟩
    · exact .inr ⟨y, List.mem_cons_of_mem _ hy, e⟩
  · rintro (e | ⟨y, hy, e⟩)
    · exact .inl (.inl e)
    · rcases List.mem_cons.1 hy with q | q
      · rw [q] at e; exact .inl (.inr e)
      · exact .inr ⟨y, q, e⟩
section
variable {n : Nat} {toks : Int} {l2 l3 : List (List Int)} {l4 : List Int} {l5 : List (List Int)} (hg : goodB (n : Int) toks l2 l3 l4 l5 = true) (h2 : l2.length ≤ 1048576) (h3 : l3.length ≤ 1048576)
include hg h2 h3
theorem cls_impl (s : List Int) (hs : s.length ≤ 17592186044415) (hr : ∀ x, x ∈ s → 0 ≤ x ∧ x < (n : Int)) (d : Nat) : ∀ (i : Nat) (out : List Int), i ≤ s.length → s.length - i = d → ClI n out → Ev (fun k => impl_Binary_closedSet.l0 k out s s.length i (n : Int) toks l2 l3 l4 l5) (closeU n (pairsU n l4 l3 l2) out (s.drop i)) := by
 have ok := goodB_ok hg; have hn := ok.n; have ht := ok.t; have hP := pairsU_in ok
 induction d with
 | zero =>
  intro i out h1 hd ho; refine ⟨1, fun k hk => ?_⟩; dsimp only; obtain ⟨k, rfl⟩ : ∃ m, k = m + 1 := ⟨k - 1, zz1g⟩
  simp only [impl_Binary_closedSet.l0]; rw [if_neg zz1g, List.drop_of_length_le zz1g]; rfl
 | succ d ih =>
  intro i out h1 hd ho; have ed : s.drop i = rd s i :: s.drop (i + 1) := getD_drop s i 0 zz1g; have hx := hr (rd s i) (rd_in zz1g); obtain ⟨K, h⟩ := ih (i + 1) _ zz1g zz1g (ho.join hP hx.2); dsimp only at h; have hl1 := ho.len; have hl2 := rowU_len hP hx.2; refine ⟨K + 1, fun k hk => ?_⟩; dsimp only; obtain ⟨k, rfl⟩ : ∃ m, k = m + 1 := ⟨k - 1, zz1g⟩
  simp only [impl_Binary_closedSet.l0]; unfold impl_Binary_unitRow.f; rw [if_pos zz1g, if_pos zz1g, if_pos zz1g, if_pos ⟨⟨hg, h2, h3⟩, zz1g⟩, Int.toNat_natCast]; simp only [Option.bind_some]; rw [unionC_eq _ _ zz1g]; simp only [Option.bind_some]; rw [wsuccL (show i < s.length by omega) zz1g, h k zz1g, ed]; rfl
end
end Go.Proofs.YtkocahlifffgjaaGreat.P
namespace Go.Proofs.YtkocahlifffgjaaGreat.P
open Go.RowKit Go.Proofs.YtkocahlifffgjaaGreatW.PrintWords Go.Proofs.YtkocahlifffgjaaGreatW.PrintLast Go.Proofs.YtkocahlifffgjaaGreatW.PrintMore
attribute [local go_sem] max2_int min2_int max_two min_two max_three min_three max_four min_four
set_option linter.unusedVariables false
set_option linter.unusedSimpArgs false
def spec_l7No.l0 : Nat → Int → Int → Int → Int → Option (Int)
 | 0, _, _, _, _ => none
 | k + 1, x0, x7, x8, x9 => if x9 < x7 then (spec_l7No.l0 k x0 x7 (wrap64 (x8 + (wrap64 ((wrap64 (x0 - x9)) + 1)))) (wrap64 (x9 + 1))) else (some x8)
def spec_l7No.f (k : Nat) (a0 : Int) (a1 : Int) (a2 : Int) : Option (Int) := spec_l7No.l0 k a0 (wrap64 (a2 - a1)) a1 1
theorem spec_l7No.mono_l : ∀ k, (∀ y0 y1 y2 y3, LeO (spec_l7No.l0 k y0 y1 y2 y3) (spec_l7No.l0 (k + 1) y0 y1 y2 y3))
 | 0 => fun _ _ _ _ r h => by simp [spec_l7No.l0] at h
 | k + 1 => by
  have mq := spec_l7No.mono_l k
  · intro y0 y1 y2 y3; unfold spec_l7No.l0
    repeat' first
    | (with_reducible exact mq _ _ _ _)
    | (with_reducible exact LeO.refl _)
    | (with_reducible exact LeO.none _)
    | (with_reducible refine LeO.ite ?_ ?_)
    | (with_reducible refine LeO.bind ?_ (fun _ => ?_))
    | exact mq _ _ _ _
    | exact LeO.none _
    | refine LeO.ite ?_ ?_
    | refine LeO.bind ?_ (fun _ => ?_)
theorem spec_l7No.mono : ∀ a0 a1 a2 k, LeO (spec_l7No.f k a0 a1 a2) (spec_l7No.f (k + 1) a0 a1 a2) := by
 intro a0 a1 a2 k; have mq := spec_l7No.mono_l k; unfold spec_l7No.f
 repeat' first
  | (with_reducible exact mq _ _ _ _)
  | (with_reducible exact LeO.refl _)
  | (with_reducible exact LeO.none _)
  | (with_reducible refine LeO.ite ?_ ?_)
  | (with_reducible refine LeO.bind ?_ (fun _ => ?_))
  | exact mq _ _ _ _
  | exact LeO.none _
  | refine LeO.ite ?_ ?_
  | refine LeO.bind ?_ (fun _ => ?_)
set_option maxHeartbeats 8000000 in
set_option maxRecDepth 100000 in
theorem spec_l7No.calls (k : Nat) (a0 : Int) (a1 : Int) (a2 : Int) (r : Int) (w : World) (h : spec_l7No.f k a0 a1 a2 = some r) :
 Calls Tryz.prog 62 #[.int .i64 a0, .int .i64 a1, .int .i64 a2] w fun e w' => e = .returned (.int .i64 r) ∧ Drawn0 w w' := by
 have H : (spec_l7No.l0 k a0 (wrap64 (a2 - a1)) a1 1) = some r := h; clear h; have H' := zA H; clear H; go_enter Tryz.func62, Tryz.ntmps62; go_wp2; go_loopg [8, 9] k (fun kq v8 v9 w' => ∃ (bU : Int) (b6 : Int), v8 = .int .i64 bU ∧ v9 = .int .i64 b6 ∧ Aside0 (spec_l7No.l0 kq a0 (wrap64 (a2 - a1)) bU b6 = some r) ∧ Aside0 (kq ≤ k) ∧ Drawn0 w w')
 case atStart => exact ⟨(a1), (1), zz0y, zz0y, H', ⟨Nat.le_refl _⟩, zz0w⟩
 case round =>
  clear H'; (try clear p2); obtain ⟨bU, b6, rfl, rfl, HA, bJ, ⟨m1, rfl⟩⟩ := hrel; cases gk with
  | zero => exact absurd HA.out (by simp [spec_l7No.l0])
  | succ k1 =>
   have H := HA.out; clear HA; simp only [spec_l7No.l0] at H; by_cases c4 : b6 < (wrap64 (a2 - a1))
   · rw [if_pos c4] at H; have dr := decide_eq_true c4; clear c4; have H' := zA H; clear H; go_wp2
     go_roundg k1
     case measure => have := bJ.out; omega
     case rel => exact ⟨(wrap64 (bU + (wrap64 ((wrap64 (a0 - b6)) + 1)))), (wrap64 (b6 + 1)), zz0y, zz0y, H', ⟨zz18 bJ⟩, zz0w⟩
   · rw [if_neg c4] at H; have dr := decide_eq_false c4; clear c4; obtain rfl := Option.some.inj H; go_wp2; go_ret; exact ⟨zz0y, zz0w⟩
def impl_cellNo.l0 : Nat → Int → Int → Int → Int → Int → Option (Int)
 | 0, _, _, _, _, _ => none
 | k + 1, x0, x1, x2, x7, x8 => if x8 < (wrap64 (x2 - x1)) then (impl_cellNo.l0 k x0 x1 x2 (wrap64 (x7 + (wrap64 ((wrap64 (x0 - x8)) + 1)))) (wrap64 (x8 + 1))) else (some x7)
def impl_cellNo.f (k : Nat) (a0 : Int) (a1 : Int) (a2 : Int) : Option (Int) := impl_cellNo.l0 k a0 a1 a2 a1 1
theorem impl_cellNo.mono_l : ∀ k, (∀ y0 y1 y2 y3 y4, LeO (impl_cellNo.l0 k y0 y1 y2 y3 y4) (impl_cellNo.l0 (k + 1) y0 y1 y2 y3 y4))
 | 0 => fun _ _ _ _ _ r h => by simp [impl_cellNo.l0] at h
 | k + 1 => by
  have mq := impl_cellNo.mono_l k
  · intro y0 y1 y2 y3 y4; unfold impl_cellNo.l0
    repeat' first
    | (with_reducible exact mq _ _ _ _ _)
    | (with_reducible exact LeO.refl _)
    | (with_reducible exact LeO.none _)
    | (with_reducible refine LeO.ite ?_ ?_)
    | (with_reducible refine LeO.bind ?_ (fun _ => ?_))
    | exact mq _ _ _ _ _
    | exact LeO.none _
    | refine LeO.ite ?_ ?_
    | refine LeO.bind ?_ (fun _ => ?_)
theorem impl_cellNo.mono : ∀ a0 a1 a2 k, LeO (impl_cellNo.f k a0 a1 a2) (impl_cellNo.f (k + 1) a0 a1 a2) := by
 intro a0 a1 a2 k; have mq := impl_cellNo.mono_l k; unfold impl_cellNo.f
 repeat' first
  | (with_reducible exact mq _ _ _ _ _)
  | (with_reducible exact LeO.refl _)
  | (with_reducible exact LeO.none _)
  | (with_reducible refine LeO.ite ?_ ?_)
  | (with_reducible refine LeO.bind ?_ (fun _ => ?_))
  | exact mq _ _ _ _ _
  | exact LeO.none _
  | refine LeO.ite ?_ ?_
  | refine LeO.bind ?_ (fun _ => ?_)
set_option maxHeartbeats 8000000 in
set_option maxRecDepth 100000 in
theorem impl_cellNo.calls (k : Nat) (a0 : Int) (a1 : Int) (a2 : Int) (r : Int) (w : World) (h : impl_cellNo.f k a0 a1 a2 = some r) :
 Calls Tryz.prog 63 #[.int .i64 a0, .int .i64 a1, .int .i64 a2] w fun e w' => e = .returned (.int .i64 r) ∧ Drawn0 w w' := by
 have H : (impl_cellNo.l0 k a0 a1 a2 a1 1) = some r := h; clear h; have H' := zA H; clear H; go_enter Tryz.func63, Tryz.ntmps63; go_wp2; go_loopg [7, 8] k (fun kq v7 v8 w' => ∃ (m8 : Int) (bU : Int), v7 = .int .i64 m8 ∧ v8 = .int .i64 bU ∧ Aside0 (impl_cellNo.l0 kq a0 a1 a2 m8 bU = some r) ∧ Aside0 (kq ≤ k) ∧ Drawn0 w w')
 case atStart => exact ⟨(a1), (1), zz0y, zz0y, H', ⟨Nat.le_refl _⟩, zz0w⟩
 case round =>
  clear H'; (try clear p2); obtain ⟨m8, bU, rfl, rfl, HA, bJ, ⟨m1, rfl⟩⟩ := hrel; cases gk with
  | zero => exact absurd HA.out (by simp [impl_cellNo.l0])
  | succ k1 =>
   have H := HA.out; clear HA; simp only [impl_cellNo.l0] at H; by_cases c4 : bU < (wrap64 (a2 - a1))
   · rw [if_pos c4] at H; have dr := decide_eq_true c4; clear c4; have H' := zA H; clear H; go_wp2
     go_roundg k1
     case measure => have := bJ.out; omega
     case rel => exact ⟨(wrap64 (m8 + (wrap64 ((wrap64 (a0 - bU)) + 1)))), (wrap64 (bU + 1)), zz0y, zz0y, H', ⟨zz18 bJ⟩, zz0w⟩
   · rw [if_neg c4] at H; have dr := decide_eq_false c4; clear c4; obtain rfl := Option.some.inj H; go_wp2; go_ret; exact ⟨zz0y, zz0w⟩
end Go.Proofs.YtkocahlifffgjaaGreat.P
namespace Go.Proofs.YtkocahlifffgjaaGreat.P
open Go.RowKit Go.Proofs.YtkocahlifffgjaaGreatW.PrintWords
set_option linter.unusedVariables false
set_option linter.unusedSimpArgs false
theorem no_all : ∀ n f t : Fin 11, f.val < t.val → t.val ≤ n.val → spec_l7No.f 20 n.val f.val t.val = impl_cellNo.f 20 n.val f.val t.val ∧ (match spec_l7No.f 20 n.val f.val t.val with | some r => decide (0 ≤ r ∧ r < wrap64 (Int.tdiv (wrap64 ((n.val : Int) * (wrap64 ((n.val : Int) + 1)))) 2)) | none => false) = true := by decide +kernel
theorem no_at (n f t : Int) (hn : n ≤ 10) (hf : 0 ≤ f) (hft : f < t) (htn : t ≤ n) : ∃ r : Int, (∀ k, 20 ≤ k → spec_l7No.f k n f t = some r) ∧ (∀ k, 20 ≤ k → impl_cellNo.f k n f t = some r) ∧ 0 ≤ r ∧ r < wrap64 (Int.tdiv (wrap64 (n * (wrap64 (n + 1)))) 2) := by
 obtain ⟨n, rfl⟩ : ∃ m : Nat, n = m := ⟨n.toNat, zz1g⟩
 obtain ⟨f, rfl⟩ : ∃ m : Nat, f = m := ⟨f.toNat, zz1g⟩
 obtain ⟨t, rfl⟩ : ∃ m : Nat, t = m := ⟨t.toNat, zz1g⟩
 obtain ⟨h1, h2⟩ := no_all ⟨n, zz1g⟩ ⟨f, zz1g⟩ ⟨t, zz1g⟩ (by show f < t; omega) (by show t ≤ n; omega); dsimp only at h1 h2; cases hv : spec_l7No.f 20 n f t with
 | none => rw [hv] at h2; cases h2
 | some r =>
  rw [hv] at h2; have h3 := of_decide_eq_true h2; rw [hv] at h1; refine ⟨r, fun k hk => at_rounds (g := fun k => spec_l7No.f k n f t) (fun k => spec_l7No.mono _ _ _ k) hk hv, fun k hk => at_rounds (g := fun k => impl_cellNo.f k n f t) (fun k => impl_cellNo.mono _ _ _ k) hk h1.symm, h3.1, h3.2⟩
end Go.Proofs.YtkocahlifffgjaaGreat.P
namespace Go.Proofs.YtkocahlifffgjaaGreat.P
open Go.RowKit Go.Proofs.YtkocahlifffgjaaGreatW.PrintWords Go.Proofs.YtkocahlifffgjaaGreatW.PrintLast Go.Proofs.YtkocahlifffgjaaGreatW.PrintMore
attribute [local go_sem] max2_int min2_int max_two min_two max_three min_three max_four min_four
set_option linter.unusedVariables false
set_option linter.unusedSimpArgs false
def slices_Index_int_int.l0 : Nat → List Int → Int → Int → Int → Option (Int)
 | 0, _, _, _, _ => none
 | k + 1, x0, x1, x7, x8 => if x8 < x7 then (if 0 ≤ x8 then (if x8 < (x0.length : Int) then (if x1 = (rd x0 x8) then (some x8) else (slices_Index_int_int.l0 k x0 x1 x7 (wrap64 (x8 + 1)))) else (none)) else (none)) else (some (-1))
def slices_Index_int_int.f (k : Nat) (l0 : List Int) (a1 : Int) : Option (Int) := slices_Index_int_int.l0 k l0 a1 (l0.length : Int) 0
set_option maxHeartbeats 8000000 in
set_option maxRecDepth 100000 in
theorem slices_Index_int_int.calls (k : Nat) (A0 : Option Addr) (c0 : Nat) (l0 : List Int) (a1 : Int) (r : Int) (w : World) (dy : Kd.C (Kd.int .i64) w A0 l0.length l0) (dz : l0.length ≤ c0) (h : slices_Index_int_int.f k l0 a1 = some r) :
 Calls Tryz.prog 88 #[.slice A0 l0.length c0, .int .i64 a1] w fun e w' => e = .returned (.int .i64 r) ∧ Drawn0 w w' := by
 have dq := zA dy; have hZ := zA dz; clear dy dz; have H : (slices_Index_int_int.l0 k l0 a1 (l0.length : Int) 0) = some r := h; clear h; have H' := zA H; clear H; go_enter Tryz.func88, Tryz.ntmps88; go_wp2; go_loopg [8] k (fun kq v8 w' => ∃ (bU : Int), v8 = .int .i64 bU ∧ Aside0 (slices_Index_int_int.l0 kq l0 a1 (l0.length : Int) bU = some r) ∧ Aside0 (kq ≤ k) ∧ Drawn0 w w')
 case atStart => exact ⟨(0), zz0y, H', ⟨Nat.le_refl _⟩, zz0w⟩
 case round =>
  clear H'; (try clear p2); obtain ⟨bU, rfl, HA, bJ, ⟨m1, rfl⟩⟩ := hrel; cases gk with
  | zero => exact absurd HA.out (by simp [slices_Index_int_int.l0])
  | succ k1 =>
   have H := HA.out; clear HA; simp only [slices_Index_int_int.l0] at H; by_cases c3 : bU < (l0.length : Int)
   · rw [if_pos c3] at H; have cM := decide_eq_true c3; clear c3; replace H := zIn H; obtain ⟨c4, H⟩ := H; have dr : decide (0 ≤ bU) = true := decide_eq_true c4; clear c4; replace H := zIn H; obtain ⟨c5, H⟩ := H; have ff : decide (bU < (l0.length : Int)) = true := decide_eq_true c5; clear c5; by_cases c6 : a1 = (rd l0 bU)
     · rw [if_pos c6] at H; have dt : (a1 == (rd l0 bU)) = true := beq_iff_eq.mpr c6; have hf : (a1 != (rd l0 bU)) = false := bne_eq_false_iff_eq.mpr c6; clear c6; obtain rfl := Option.some.inj H; have aN : 0 ≤ (bU : Int) := of_decide_eq_true zz1b; have aQ : bU < (l0.length : Int) := of_decide_eq_true zz1b; obtain ⟨bm, bH, be⟩ := Kd.at_int dq.out bU aN aQ; cases bH; replace aN := eq_true aN; replace aQ := eq_true aQ; go_wp2; go_ret; exact ⟨zz0y, zz0w⟩
     · rw [if_neg c6] at H; have dt : (a1 == (rd l0 bU)) = false := beq_eq_false_iff_ne.mpr c6; have hf : (a1 != (rd l0 bU)) = true := bne_iff_ne.mpr c6; have H' := zA H; clear H; have aN : 0 ≤ (bU : Int) := of_decide_eq_true zz1b; have aQ : bU < (l0.length : Int) := of_decide_eq_true zz1b; obtain ⟨bm, bH, be⟩ := Kd.at_int dq.out bU aN aQ; cases bH; replace aN := eq_true aN; replace aQ := eq_true aQ; go_wp2
       go_roundg k1
       case measure => have := bJ.out; omega
       case rel => exact ⟨(wrap64 (bU + 1)), zz0y, H', ⟨zz18 bJ⟩, zz0w⟩
   · rw [if_neg c3] at H; have cM := decide_eq_false c3; clear c3; obtain rfl := Option.some.inj H; go_wp2; go_ret; exact ⟨zz0y, zz0w⟩
def slices_Contains_int_int.f (k : Nat) (l0 : List Int) (a1 : Int) : Option (Bool) := (slices_Index_int_int.f k l0 a1).bind fun cZ => (some (decide (cZ ≥ 0)))
set_option maxHeartbeats 8000000 in
set_option maxRecDepth 100000 in
theorem slices_Contains_int_int.calls (k : Nat) (A0 : Option Addr) (c0 : Nat) (l0 : List Int) (a1 : Int) (r : Bool) (w : World) (dy : Kd.C (Kd.int .i64) w A0 l0.length l0) (dz : l0.length ≤ c0) (h : slices_Contains_int_int.f k l0 a1 = some r) :
 Calls Tryz.prog 76 #[.slice A0 l0.length c0, .int .i64 a1] w fun e w' => e = .returned (.bool r) ∧ Drawn0 w w' := by
 have dq := zA dy; have hZ := zA dz; clear dy dz; have H : ((slices_Index_int_int.f k l0 a1).bind fun cZ => (some (decide (cZ ≥ 0)))) = some r := h; clear h; replace H := Option.bind_eq_some_iff.mp H; obtain ⟨cZ, g5, H⟩ := H; have A3 := zA g5; clear g5; obtain rfl := Option.some.inj H; go_enter Tryz.func76, Tryz.ntmps76; go_wp2_with (first | ((with_reducible refine gate_callee (f := 88) rfl ?_); refine goesL_ (some 7) rfl rfl Tryz.func88 zz1c rfl #[.slice A0 l0.length c0, .int .i64 a1] rfl zz0d ?_; (with_reducible refine (slices_Index_int_int.calls k _ _ l0 a1 cZ _ ?aj ?ak A3.out).mono ?_); (case aj => repeat (first | exact dq.out | refine zP ?_ _ | refine zQ ?_ _ | refine zR ?_)); (case ak => exact hZ.out); rintro e w' ⟨rfl, ⟨nd, rfl⟩⟩; refine ⟨_, rfl, ?_⟩)); go_ret; exact ⟨zz0y, zz0w⟩
end Go.Proofs.YtkocahlifffgjaaGreat.P
namespace Go.Proofs.YtkocahlifffgjaaGreat.P
open Go.RowKit Go.Proofs.YtkocahlifffgjaaGreatW.PrintWords
set_option linter.unusedVariables false
set_option linter.unusedSimpArgs false
theorem index_loop (l : List Int) (x : Int) (hb : l.length ≤ 9223372036854775807) (d : Nat) : ∀ (k i : Nat), i ≤ l.length → l.length - i = d → d < k →
 ∃ t, slices_Index_int_int.l0 k l x l.length i = some t ∧ (t ≥ 0 ↔ x ∈ l.drop i) := by
 induction d with
 | zero =>
  intro k i h1 hd hk; obtain ⟨k, rfl⟩ : ∃ m, k = m + 1 := ⟨k - 1, zz1g⟩
  refine ⟨-1, ?_, ?_⟩
  · simp only [slices_Index_int_int.l0]; rw [if_neg zz1g]
  · rw [List.drop_of_length_le zz1g]; simp
 | succ d ih =>
  intro k i h1 hd hk; obtain ⟨k, rfl⟩ : ∃ m, k = m + 1 := ⟨k - 1, zz1g⟩
  have ed : l.drop i = rd l i :: l.drop (i + 1) := getD_drop l i 0 zz1g; obtain ⟨t, e, ht⟩ := ih k (i + 1) zz1g zz1g zz1g; by_cases c : x = rd l i
  · refine ⟨i, ?_, ?_⟩
    · simp only [slices_Index_int_int.l0]; rw [if_pos zz1g, if_pos zz1g, if_pos zz1g, if_pos c]
    · rw [ed]; exact ⟨fun _ => by rw [c]; exact List.mem_cons_self, fun _ => by omega⟩
  · refine ⟨t, ?_, ?_⟩
    · simp only [slices_Index_int_int.l0]; rw [if_pos zz1g, if_pos zz1g, if_pos zz1g, if_neg c, wsuccL (show i < l.length by omega) hb, e]
    · rw [ht, ed, List.mem_cons]; exact ⟨.inr, fun h => h.resolve_left c⟩
theorem contains_eq (l : List Int) (x : Int) (hb : l.length ≤ 9223372036854775807) (k : Nat) (hk : l.length < k) : slices_Contains_int_int.f k l x = some (decide (x ∈ l)) := by
 unfold slices_Contains_int_int.f slices_Index_int_int.f; obtain ⟨t, e, ht⟩ := index_loop l x hb l.length k 0 (Nat.zero_le _) rfl hk; rw [show ((0 : Nat) : Int) = 0 from rfl] at e; rw [e]; simp only [Option.bind_some]; rw [List.drop_zero] at ht; exact congrArg some (decide_eq_decide.2 ht)
end Go.Proofs.YtkocahlifffgjaaGreat.P
namespace Go.Proofs.YtkocahlifffgjaaGreat.P
open Go.RowKit Go.Proofs.YtkocahlifffgjaaGreatW.PrintWords Go.Proofs.YtkocahlifffgjaaGreatW.PrintLast Go.Proofs.YtkocahlifffgjaaGreatW.PrintMore
set_option linter.unusedVariables false
set_option linter.unusedSimpArgs false
def tokB (toks x : Int) : Bool := decide (0 ≤ x ∧ x ≤ wrap64 (toks - 1))
set_option maxHeartbeats 2000000 in
theorem pred_tok (toks : Int) (B : Nat) (w : World) (hB : B < w.heap.size) (hcB : w.cell? ⟨B, 0, none⟩ = some (.int .i64 toks)) :
 PredI 56 #[.pointer (some ⟨B, 0, none⟩)] (fun x => !tokB toks x) w := fun W x hb => by
 have h1 : W.cell? ⟨B, 0, none⟩ = some (.int .i64 toks) := (hb.cell (p := ⟨B, 0, none⟩) hB).trans hcB; have hc := fun w => impl_in.calls x 0 (wrap64 (toks - 1)) _ w (impl_in_eq x 0 (wrap64 (toks - 1)))
 clear hb hcB; show Calls Tryz.prog 56 #[.int .i64 x, .pointer (some ⟨B, 0, none⟩)] W fun e w' => e = .returned (.bool (!decide (0 ≤ x ∧ x ≤ wrap64 (toks - 1)))) ∧ Below W.heap.size W w'
 generalize decide (0 ≤ x ∧ x ≤ wrap64 (toks - 1)) = b at hc ⊢; go_enter Tryz.func56, Tryz.ntmps56; go_wp2_with (go_at_call 48; refine (hc _).mono ?_; rintro e w' ⟨rfl, hd⟩); go_ret; exact ⟨rfl, drawn_below hd⟩
def wordB (t : Int) (l : List Int) : Bool := decide (l.length ≤ 10) && !(l.any fun x => !tokB t x)
def impl_isWord.f (a0 : Int) (l1 : List Int) : Option Bool := some (decide (l1.length ≤ 10) && !(l1.any fun x => !tokB a0 x))
set_option maxHeartbeats 2000000 in
theorem impl_isWord.calls (a0 : Int) (A1 : Option Addr) (c1 : Nat) (l1 : List Int) (r : Bool) (w : World) (hr1 : Kd.C (Kd.int .i64) w A1 l1.length l1) (hc1 : l1.length ≤ c1) (h : impl_isWord.f a0 l1 = some r) :
 Calls Tryz.prog 31 #[.int .i64 a0, .slice A1 l1.length c1] w fun e w' => e = .returned (.bool r) ∧ Below w.heap.size w w' := by
 obtain rfl := Option.some.inj h; clear h; have eg : ∀ args w, (callFunc 56 args).run Tryz.prog w = .ok (.enter 56 args) w := enters_of Tryz.func56 zz1c rfl; have H := zA fun (W : World) (B : Nat) (hW : Below w.heap.size w W) (hB : B < W.heap.size) (hcB : W.cell? ⟨B, 0, none⟩ = some (.int .i64 a0)) =>
  containsFunc_int _ #[.pointer (some ⟨B, 0, none⟩)] eg (fun x => !tokB a0 x) A1 c1 l1 W (zS hr1 hW) hc1 (pred_tok a0 B W hB hcB)
 clear hr1 hc1 eg; generalize (l1.any fun x => !tokB a0 x) = b at H ⊢; by_cases hl : l1.length ≤ 10
 · have hd : decide (l1.length ≤ 10) = true := decide_eq_true hl; have hd2 : decide ((l1.length : Int) ≤ 10) = true := decide_eq_true zz1g; clear hl; go_enter Tryz.func31, Tryz.ntmps31; go_wp2_with (go_at_call 55; refine (H.out _ _ zz0x (by simp <;> omega) zz1h).mono ?_; rintro e w' ⟨rfl, hb'⟩); go_ret; exact ⟨by simp [hd], zG zz0x hb'⟩
 · have hd : decide (l1.length ≤ 10) = false := decide_eq_false hl; have hd2 : decide ((l1.length : Int) ≤ 10) = false := decide_eq_false zz1g; clear hl; go_enter Tryz.func31, Tryz.ntmps31; go_wp2; go_ret; exact ⟨by simp [hd], zz0x⟩
end Go.Proofs.YtkocahlifffgjaaGreat.P
namespace Go.Proofs.YtkocahlifffgjaaGreat.P
open Go.RowKit Go.Proofs.YtkocahlifffgjaaGreatW.PrintWords Go.Proofs.YtkocahlifffgjaaGreatW.PrintLast Go.Proofs.YtkocahlifffgjaaGreatW.PrintMore
attribute [local go_sem] max2_int min2_int max_two min_two max_three min_three max_four min_four
set_option linter.unusedVariables false
set_option linter.unusedSimpArgs false
def spec_l1All.l0 : Nat → Int → Int → List Int → Int → Int → Option (Bool)
 | 0, _, _, _, _, _ => none
 | k + 1, x1, x2, x9, lc, ek => if ek < lc then (if 0 ≤ ek then (if ek < (x9.length : Int) then ((spec_l1In.f (rd x9 ek) x1 x2).bind fun aH => (if aH = true then (spec_l1All.l0 k x1 x2 x9 lc (wrap64 (ek + 1))) else (some false))) else (none)) else (none)) else (some true)
def spec_l1All.f (k : Nat) (l0 : List Int) (a1 : Int) (a2 : Int) : Option (Bool) := spec_l1All.l0 k a1 a2 l0 (l0.length : Int) 0
set_option maxHeartbeats 8000000 in
set_option maxRecDepth 100000 in
theorem spec_l1All.calls (k : Nat) (A0 : Option Addr) (c0 : Nat) (l0 : List Int) (a1 : Int) (a2 : Int) (r : Bool) (w : World) (dy : Kd.C (Kd.int .i64) w A0 l0.length l0) (dz : l0.length ≤ c0) (h : spec_l1All.f k l0 a1 a2 = some r) :
 Calls Tryz.prog 40 #[.slice A0 l0.length c0, .int .i64 a1, .int .i64 a2] w fun e w' => e = .returned (.bool r) ∧ Drawn0 w w' := by
 have dq := zA dy; have hZ := zA dz; clear dy dz; have H : (spec_l1All.l0 k a1 a2 l0 (l0.length : Int) 0) = some r := h; clear h; have H' := zA H; clear H; go_enter Tryz.func40, Tryz.ntmps40; go_wp2; go_loopg [11] k (fun kq jv w' => ∃ (aE : Int), jv = .int .i64 aE ∧ Aside0 (spec_l1All.l0 kq a1 a2 l0 (l0.length : Int) aE = some r) ∧ Aside0 (kq ≤ k) ∧ Drawn0 w w')
 case atStart => exact ⟨(0), zz0y, H', ⟨Nat.le_refl _⟩, zz0w⟩
 case round =>
  clear H'; (try clear p2); obtain ⟨aE, rfl, HA, bJ, ⟨m1, rfl⟩⟩ := hrel; cases gk with
  | zero => exact absurd HA.out (by simp [spec_l1All.l0])
  | succ k1 =>
   have H := HA.out; clear HA; simp only [spec_l1All.l0] at H; by_cases c4 : aE < (l0.length : Int)
   · rw [if_pos c4] at H; have dr := decide_eq_true c4; clear c4; replace H := zIn H; obtain ⟨c5, H⟩ := H; have ff : decide (0 ≤ aE) = true := decide_eq_true c5; clear c5; replace H := zIn H; obtain ⟨c6, H⟩ := H; have dt : decide (aE < (l0.length : Int)) = true := decide_eq_true c6; clear c6; replace H := Option.bind_eq_some_iff.mp H; obtain ⟨aH, lg, H⟩ := H; have A7 := zA lg; clear lg; by_cases c8 : aH = true
     · subst c8; rw [if_pos rfl] at H; have H' := zA H; clear H; have aN : 0 ≤ (aE : Int) := of_decide_eq_true zz1b; have aQ : aE < (l0.length : Int) := of_decide_eq_true zz1b; obtain ⟨bm, bH, be⟩ := Kd.at_int dq.out aE aN aQ; cases bH; replace aN := eq_true aN; replace aQ := eq_true aQ; go_wp2_with (first | ((with_reducible refine gate_callee (f := 41) rfl ?_); refine goesL_ (some 18) rfl rfl Tryz.func41 zz1c rfl #[.int .i64 (rd l0 aE), .int .i64 a1, .int .i64 a2] rfl zz0d ?_; (with_reducible refine (spec_l1In.calls (rd l0 aE) a1 a2 true _ A7.out).mono ?_); rintro e w' ⟨rfl, ⟨nd, rfl⟩⟩; refine ⟨_, rfl, ?_⟩))
       go_roundg k1
       case measure => have := bJ.out; omega
       case rel => exact ⟨(wrap64 (aE + 1)), zz0y, H', ⟨zz18 bJ⟩, zz0w⟩
     · replace c8 := Bool.eq_false_iff.mpr c8; subst c8; rw [if_neg zFt] at H; obtain rfl := Option.some.inj H; have aN : 0 ≤ (aE : Int) := of_decide_eq_true zz1b; have aQ : aE < (l0.length : Int) := of_decide_eq_true zz1b; obtain ⟨bm, bH, be⟩ := Kd.at_int dq.out aE aN aQ; cases bH; replace aN := eq_true aN; replace aQ := eq_true aQ; go_wp2_with (first | ((with_reducible refine gate_callee (f := 41) rfl ?_); refine goesL_ (some 18) rfl rfl Tryz.func41 zz1c rfl #[.int .i64 (rd l0 aE), .int .i64 a1, .int .i64 a2] rfl zz0d ?_; (with_reducible refine (spec_l1In.calls (rd l0 aE) a1 a2 false _ A7.out).mono ?_); rintro e w' ⟨rfl, ⟨nd, rfl⟩⟩; refine ⟨_, rfl, ?_⟩)); go_ret; exact ⟨zz0y, zz0w⟩
   · rw [if_neg c4] at H; have dr := decide_eq_false c4; clear c4; obtain rfl := Option.some.inj H; go_wp2; go_ret; exact ⟨zz0y, zz0w⟩
def spec_l7Has.f (k : Nat) (ae : Int) (al : Int) (ab : List (List Int)) (af : List (List Int)) (ai : List Int) (ah : List (List Int)) (aT : Int) (aU : List (List Int)) (l2 : List Int) (a3 : Int) (a4 : Int) (a5 : Int) : Option (Bool) := if a3 < 0 then (if a5 = (wrap64 (a4 + 1)) then (if 0 ≤ a4 then (if a4 < (l2.length : Int) then (some ((rd l2 a4) == (wrap64 ((-1) - a3)))) else (none)) else (none)) else (some false)) else ((spec_l7No.f k aT a4 a5).bind fun a7 => (if 0 ≤ a7 then (if a7 < (aU.length : Int) then ((spec_l1Has.f k (rd_L1 aU a7) a3).bind fun cp => (some cp)) else (none)) else (none)))
set_option maxHeartbeats 8000000 in
set_option maxRecDepth 100000 in
theorem spec_l7Has.calls (k : Nat) (ae : Int) (al : Int) (az : Option Addr) (aq : Nat) (ab : List (List Int)) (ay : Option Addr) (av : Nat) (af : List (List Int)) (ar : Option Addr) (au : Nat) (ai : List Int) (aw : Option Addr) (ax : Nat) (ah : List (List Int)) (aT : Int) (bN : Option Addr) (bO : Nat) (aU : List (List Int)) (A2 : Option Addr) (c2 : Nat) (l2 : List Int) (a3 : Int) (a4 : Int) (a5 : Int) (r : Bool) (w : World) (bX : Kd.C (Kd.slice 3 (Kd.int .i64)) w az ab.length ab) (bY : ab.length ≤ aq) (bZ : Kd.C (Kd.slice 3 (Kd.int .i64)) w ay af.length af) (b0 : af.length ≤ av) (b1 : Kd.C (Kd.int .i64) w ar ai.length ai) (b2 : ai.length ≤ au) (b3 : Kd.C (Kd.slice 3 (Kd.int .i64)) w aw ah.length ah) (b4 : ah.length ≤ ax) (d1 : Kd.C (Kd.slice 3 (Kd.int .i64)) w bN aU.length aU) (d2 : aU.length ≤ bO) (kE : Kd.C (Kd.int .i64) w A2 l2.length l2) (kF : l2.length ≤ c2) (h : spec_l7Has.f k ae al ab af ai ah aT aU l2 a3 a4 a5 = some r) :
 Calls Tryz.prog 44 #[.agg #[.int .i64 ae, .int .i64 al, .slice az ab.length aq, .slice ay af.length av, .slice ar ai.length au, .slice aw ah.length ax], .agg #[.int .i64 aT, .slice bN aU.length bO], .slice A2 l2.length c2, .int .i64 a3, .int .i64 a4, .int .i64 a5] w fun e w' => e = .returned (.bool r) ∧ Below w.heap.size w w' := by
 have hu32 := Tryz.underlying32; have hu34 := Tryz.underlying34; have bs := zA bX; have bw := zA bY; clear bX bY; have bt := zA bZ; have bz := zA b0; clear bZ b0; have bA := zA b1; have bB := zA b2; clear b1 b2; have bC := zA b3; have bI := zA b4; clear b3 b4; have cx := zA d1; have cK := zA d2; clear d1 d2; have fW := zA kE; have fI := zA kF; clear kE kF; have HB := zA (Below.refl w.heap.size w); have H : (if a3 < 0 then (if a5 = (wrap64 (a4 + 1)) then (if 0 ≤ a4 then (if a4 < (l2.length : Int) then (some ((rd l2 a4) == (wrap64 ((-1) - a3)))) else (none)) else (none)) else (some false)) else ((spec_l7No.f k aT a4 a5).bind fun a7 => (if 0 ≤ a7 then (if a7 < (aU.length : Int) then ((spec_l1Has.f k (rd_L1 aU a7) a3).bind fun cp => (some cp)) else (none)) else (none)))) = some r := h; clear h; by_cases c7 : a3 < 0
 · rw [if_pos c7] at H; have dA := decide_eq_true c7; clear c7; by_cases c8 : a5 = (wrap64 (a4 + 1))
   · rw [if_pos c8] at H; have dY : (a5 == (wrap64 (a4 + 1))) = true := beq_iff_eq.mpr c8; have lK : (a5 != (wrap64 (a4 + 1))) = false := bne_eq_false_iff_eq.mpr c8; clear c8; replace H := zIn H; obtain ⟨c9, H⟩ := H; have eN : decide (0 ≤ a4) = true := decide_eq_true c9; clear c9; replace H := zIn H; obtain ⟨eh, H⟩ := H; have eQ : decide (a4 < (l2.length : Int)) = true := decide_eq_true eh; clear eh; obtain rfl := Option.some.inj H; go_enter Tryz.func44, Tryz.ntmps44; go_wp2_with (first | ((with_reducible refine gate_dst (N := 6) rfl ?_); refine box_event ?hg (N := 6) ?hd (cs := #[.int .i64 ae, .int .i64 al, .slice az ab.length aq, .slice ay af.length av, .slice ar ai.length au, .slice aw ah.length ax]) (t := 32) ?hr ?_; (case hd => rfl); (case hg => rfl); (case hr => first | (go_simp; done) | (go_simp; rfl)); intro ad hg ib hbox hb; have aa := zA (hbox); have bD := zA ((by rw [hg]; exact (zF (zz0q HB)) : w.heap.size ≤ ad)); have ac := zA ((by rw [hg]; exact (zF (zz0q HB)) : w.heap.size ≤ ad)); replace HB := zA (zG (zz0q HB) hb); clear hb hbox hg) | ((with_reducible refine gate_dst (N := 7) rfl ?_); refine box_event ?hg (N := 7) ?hd (cs := #[.int .i64 aT, .slice bN aU.length bO]) (t := 34) ?hr ?_; (case hd => rfl); (case hg => rfl); (case hr => first | (go_simp; done) | (go_simp; rfl)); intro am hg kR hbox hb; have ag := zA (hbox); have cJ := zA ((by rw [hg]; exact (zF (zz0h HB ac)) : w.heap.size ≤ am)); have ap := zA ((by rw [hg]; exact (zF (zz0h HB ac)) : w.heap.size ≤ am)); replace HB := zA (zG (zz0h HB ac) hb); have aC := zA ((by rw [hg]; exact Nat.ne_of_lt (blk_lt (g := ad) (o := .cells #[.int .i64 ae, .int .i64 al, .slice az ab.length aq, .slice ay af.length av, .slice ar ai.length au, .slice aw ah.length ax] 32 (0, 0)) (zz0s aa)) : ad ≠ am)); have aD := zA ((by rw [hg]; exact Nat.ne_of_gt (blk_lt (g := ad) (o := .cells #[.int .i64 ae, .int .i64 al, .slice az ab.length aq, .slice ay af.length av, .slice ar ai.length au, .slice aw ah.length ax] 32 (0, 0)) (zz0s aa)) : am ≠ ad)); replace aa := zA (zMp aa.out hb); clear hb hbox hg; have cc : 0 ≤ (a4 : Int) := of_decide_eq_true zz1b; have cd : a4 < (l2.length : Int) := of_decide_eq_true zz1b; obtain ⟨di, dS, a9⟩ := Kd.at_int fW.out a4 cc cd; cases dS; replace a9 := (HB.out.cell (World.block_lt_of_cell? w _ a9)).trans a9; replace cc := eq_true cc; replace cd := eq_true cd)); (repeat (go_quiet (first | ((with_reducible refine gate_dst (N := 6) rfl ?_); refine box_event ?hg (N := 6) ?hd (cs := #[.int .i64 ae, .int .i64 al, .slice az ab.length aq, .slice ay af.length av, .slice ar ai.length au, .slice aw ah.length ax]) (t := 32) ?hr ?_; (case hd => rfl); (case hg => rfl); (case hr => first | (go_simp; done) | (go_simp; rfl)); intro ad hg ib hbox hb; have aa := zA (hbox); have bD := zA ((by rw [hg]; exact (zF (zz0q HB)) : w.heap.size ≤ ad)); have ac := zA ((by rw [hg]; exact (zF (zz0q HB)) : w.heap.size ≤ ad)); replace HB := zA (zG (zz0q HB) hb); clear hb hbox hg) | ((with_reducible refine gate_dst (N := 7) rfl ?_); refine box_event ?hg (N := 7) ?hd (cs := #[.int .i64 aT, .slice bN aU.length bO]) (t := 34) ?hr ?_; (case hd => rfl); (case hg => rfl); (case hr => first | (go_simp; done) | (go_simp; rfl)); intro am hg kR hbox hb; have ag := zA (hbox); have cJ := zA ((by rw [hg]; exact (zF (zz0h HB ac)) : w.heap.size ≤ am)); have ap := zA ((by rw [hg]; exact (zF (zz0h HB ac)) : w.heap.size ≤ am)); replace HB := zA (zG (zz0h HB ac) hb); have aC := zA ((by rw [hg]; exact Nat.ne_of_lt (blk_lt (g := ad) (o := .cells #[.int .i64 ae, .int .i64 al, .slice az ab.length aq, .slice ay af.length av, .slice ar ai.length au, .slice aw ah.length ax] 32 (0, 0)) (zz0s aa)) : ad ≠ am)); have aD := zA ((by rw [hg]; exact Nat.ne_of_gt (blk_lt (g := ad) (o := .cells #[.int .i64 ae, .int .i64 al, .slice az ab.length aq, .slice ay af.length av, .slice ar ai.length au, .slice aw ah.length ax] 32 (0, 0)) (zz0s aa)) : am ≠ ad)); replace aa := zA (zMp aa.out hb); clear hb hbox hg; have cc : 0 ≤ (a4 : Int) := of_decide_eq_true zz1b; have cd : a4 < (l2.length : Int) := of_decide_eq_true zz1b; obtain ⟨di, dS, a9⟩ := Kd.at_int fW.out a4 cc cd; cases dS; replace a9 := (HB.out.cell (World.block_lt_of_cell? w _ a9)).trans a9; replace cc := eq_true cc; replace cd := eq_true cd)); try go_wp2_with (first | ((with_reducible refine gate_dst (N := 6) rfl ?_); refine box_event ?hg (N := 6) ?hd (cs := #[.int .i64 ae, .int .i64 al, .slice az ab.length aq, .slice ay af.length av, .slice ar ai.length au, .slice aw ah.length ax]) (t := 32) ?hr ?_; (case hd => rfl); (case hg => rfl); (case hr => first | (go_simp; done) | (go_simp; rfl)); intro ad hg ib hbox hb; have aa := zA (hbox); have bD := zA ((by rw [hg]; exact (zF (zz0q HB)) : w.heap.size ≤ ad)); have ac := zA ((by rw [hg]; exact (zF (zz0q HB)) : w.heap.size ≤ ad)); replace HB := zA (zG (zz0q HB) hb); clear hb hbox hg) | ((with_reducible refine gate_dst (N := 7) rfl ?_); refine box_event ?hg (N := 7) ?hd (cs := #[.int .i64 aT, .slice bN aU.length bO]) (t := 34) ?hr ?_; (case hd => rfl); (case hg => rfl); (case hr => first | (go_simp; done) | (go_simp; rfl)); intro am hg kR hbox hb; have ag := zA (hbox); have cJ := zA ((by rw [hg]; exact (zF (zz0h HB ac)) : w.heap.size ≤ am)); have ap := zA ((by rw [hg]; exact (zF (zz0h HB ac)) : w.heap.size ≤ am)); replace HB := zA (zG (zz0h HB ac) hb); have aC := zA ((by rw [hg]; exact Nat.ne_of_lt (blk_lt (g := ad) (o := .cells #[.int .i64 ae, .int .i64 al, .slice az ab.length aq, .slice ay af.length av, .slice ar ai.length au, .slice aw ah.length ax] 32 (0, 0)) (zz0s aa)) : ad ≠ am)); have aD := zA ((by rw [hg]; exact Nat.ne_of_gt (blk_lt (g := ad) (o := .cells #[.int .i64 ae, .int .i64 al, .slice az ab.length aq, .slice ay af.length av, .slice ar ai.length au, .slice aw ah.length ax] 32 (0, 0)) (zz0s aa)) : am ≠ ad)); replace aa := zA (zMp aa.out hb); clear hb hbox hg; have cc : 0 ≤ (a4 : Int) := of_decide_eq_true zz1b; have cd : a4 < (l2.length : Int) := of_decide_eq_true zz1b; obtain ⟨di, dS, a9⟩ := Kd.at_int fW.out a4 cc cd; cases dS; replace a9 := (HB.out.cell (World.block_lt_of_cell? w _ a9)).trans a9; replace cc := eq_true cc; replace cd := eq_true cd)))); go_ret; exact ⟨zz0r, zz0e HB ac ap⟩
   · rw [if_neg c8] at H; have dY : (a5 == (wrap64 (a4 + 1))) = false := beq_eq_false_iff_ne.mpr c8; have lK : (a5 != (wrap64 (a4 + 1))) = true := bne_iff_ne.mpr c8; obtain rfl := Option.some.inj H; go_enter Tryz.func44, Tryz.ntmps44; go_wp2_with (first | ((with_reducible refine gate_dst (N := 6) rfl ?_); refine box_event ?hg (N := 6) ?hd (cs := #[.int .i64 ae, .int .i64 al, .slice az ab.length aq, .slice ay af.length av, .slice ar ai.length au, .slice aw ah.length ax]) (t := 32) ?hr ?_; (case hd => rfl); (case hg => rfl); (case hr => first | (go_simp; done) | (go_simp; rfl)); intro ad hg mu hbox hb; have aa := zA (hbox); have bD := zA ((by rw [hg]; exact (zF (zz0q HB)) : w.heap.size ≤ ad)); have ac := zA ((by rw [hg]; exact (zF (zz0q HB)) : w.heap.size ≤ ad)); replace HB := zA (zG (zz0q HB) hb); clear hb hbox hg) | ((with_reducible refine gate_dst (N := 7) rfl ?_); refine box_event ?hg (N := 7) ?hd (cs := #[.int .i64 aT, .slice bN aU.length bO]) (t := 34) ?hr ?_; (case hd => rfl); (case hg => rfl); (case hr => first | (go_simp; done) | (go_simp; rfl)); intro am hg gH hbox hb; have ag := zA (hbox); have cJ := zA ((by rw [hg]; exact (zF (zz0h HB ac)) : w.heap.size ≤ am)); have ap := zA ((by rw [hg]; exact (zF (zz0h HB ac)) : w.heap.size ≤ am)); replace HB := zA (zG (zz0h HB ac) hb); have aC := zA ((by rw [hg]; exact Nat.ne_of_lt (blk_lt (g := ad) (o := .cells #[.int .i64 ae, .int .i64 al, .slice az ab.length aq, .slice ay af.length av, .slice ar ai.length au, .slice aw ah.length ax] 32 (0, 0)) (zz0s aa)) : ad ≠ am)); have aD := zA ((by rw [hg]; exact Nat.ne_of_gt (blk_lt (g := ad) (o := .cells #[.int .i64 ae, .int .i64 al, .slice az ab.length aq, .slice ay af.length av, .slice ar ai.length au, .slice aw ah.length ax] 32 (0, 0)) (zz0s aa)) : am ≠ ad)); replace aa := zA (zMp aa.out hb); clear hb hbox hg)); (repeat (go_quiet (first | ((with_reducible refine gate_dst (N := 6) rfl ?_); refine box_event ?hg (N := 6) ?hd (cs := #[.int .i64 ae, .int .i64 al, .slice az ab.length aq, .slice ay af.length av, .slice ar ai.length au, .slice aw ah.length ax]) (t := 32) ?hr ?_; (case hd => rfl); (case hg => rfl); (case hr => first | (go_simp; done) | (go_simp; rfl)); intro ad hg mu hbox hb; have aa := zA (hbox); have bD := zA ((by rw [hg]; exact (zF (zz0q HB)) : w.heap.size ≤ ad)); have ac := zA ((by rw [hg]; exact (zF (zz0q HB)) : w.heap.size ≤ ad)); replace HB := zA (zG (zz0q HB) hb); clear hb hbox hg) | ((with_reducible refine gate_dst (N := 7) rfl ?_); refine box_event ?hg (N := 7) ?hd (cs := #[.int .i64 aT, .slice bN aU.length bO]) (t := 34) ?hr ?_; (case hd => rfl); (case hg => rfl); (case hr => first | (go_simp; done) | (go_simp; rfl)); intro am hg gH hbox hb; have ag := zA (hbox); have cJ := zA ((by rw [hg]; exact (zF (zz0h HB ac)) : w.heap.size ≤ am)); have ap := zA ((by rw [hg]; exact (zF (zz0h HB ac)) : w.heap.size ≤ am)); replace HB := zA (zG (zz0h HB ac) hb); have aC := zA ((by rw [hg]; exact Nat.ne_of_lt (blk_lt (g := ad) (o := .cells #[.int .i64 ae, .int .i64 al, .slice az ab.length aq, .slice ay af.length av, .slice ar ai.length au, .slice aw ah.length ax] 32 (0, 0)) (zz0s aa)) : ad ≠ am)); have aD := zA ((by rw [hg]; exact Nat.ne_of_gt (blk_lt (g := ad) (o := .cells #[.int .i64 ae, .int .i64 al, .slice az ab.length aq, .slice ay af.length av, .slice ar ai.length au, .slice aw ah.length ax] 32 (0, 0)) (zz0s aa)) : am ≠ ad)); replace aa := zA (zMp aa.out hb); clear hb hbox hg)); try go_wp2_with (first | ((with_reducible refine gate_dst (N := 6) rfl ?_); refine box_event ?hg (N := 6) ?hd (cs := #[.int .i64 ae, .int .i64 al, .slice az ab.length aq, .slice ay af.length av, .slice ar ai.length au, .slice aw ah.length ax]) (t := 32) ?hr ?_; (case hd => rfl); (case hg => rfl); (case hr => first | (go_simp; done) | (go_simp; rfl)); intro ad hg mu hbox hb; have aa := zA (hbox); have bD := zA ((by rw [hg]; exact (zF (zz0q HB)) : w.heap.size ≤ ad)); have ac := zA ((by rw [hg]; exact (zF (zz0q HB)) : w.heap.size ≤ ad)); replace HB := zA (zG (zz0q HB) hb); clear hb hbox hg) | ((with_reducible refine gate_dst (N := 7) rfl ?_); refine box_event ?hg (N := 7) ?hd (cs := #[.int .i64 aT, .slice bN aU.length bO]) (t := 34) ?hr ?_; (case hd => rfl); (case hg => rfl); (case hr => first | (go_simp; done) | (go_simp; rfl)); intro am hg gH hbox hb; have ag := zA (hbox); have cJ := zA ((by rw [hg]; exact (zF (zz0h HB ac)) : w.heap.size ≤ am)); have ap := zA ((by rw [hg]; exact (zF (zz0h HB ac)) : w.heap.size ≤ am)); replace HB := zA (zG (zz0h HB ac) hb); have aC := zA ((by rw [hg]; exact Nat.ne_of_lt (blk_lt (g := ad) (o := .cells #[.int .i64 ae, .int .i64 al, .slice az ab.length aq, .slice ay af.length av, .slice ar ai.length au, .slice aw ah.length ax] 32 (0, 0)) (zz0s aa)) : ad ≠ am)); have aD := zA ((by rw [hg]; exact Nat.ne_of_gt (blk_lt (g := ad) (o := .cells #[.int .i64 ae, .int .i64 al, .slice az ab.length aq, .slice ay af.length av, .slice ar ai.length au, .slice aw ah.length ax] 32 (0, 0)) (zz0s aa)) : am ≠ ad)); replace aa := zA (zMp aa.out hb); clear hb hbox hg)))); go_ret; exact ⟨zz0r, zz0e HB ac ap⟩
 · rw [if_neg c7] at H; have dA := decide_eq_false c7; clear c7; replace H := Option.bind_eq_some_iff.mp H; obtain ⟨a7, mr, H⟩ := H; have qf := zA mr; clear mr; replace H := zIn H; obtain ⟨iR, H⟩ := H; have mi : decide (0 ≤ a7) = true := decide_eq_true iR; clear iR; replace H := zIn H; obtain ⟨gq, H⟩ := H; have ia : decide (a7 < (aU.length : Int)) = true := decide_eq_true gq; clear gq; replace H := Option.bind_eq_some_iff.mp H; obtain ⟨cp, qg, H⟩ := H; have qS := zA qg; clear qg; obtain rfl := Option.some.inj H; go_enter Tryz.func44, Tryz.ntmps44; go_wp2_with (first | ((with_reducible refine gate_dst (N := 6) rfl ?_); refine box_event ?hg (N := 6) ?hd (cs := #[.int .i64 ae, .int .i64 al, .slice az ab.length aq, .slice ay af.length av, .slice ar ai.length au, .slice aw ah.length ax]) (t := 32) ?hr ?_; (case hd => rfl); (case hg => rfl); (case hr => first | (go_simp; done) | (go_simp; rfl)); intro ad hg qt hbox hb; have aa := zA (hbox); have bD := zA ((by rw [hg]; exact (zF (zz0q HB)) : w.heap.size ≤ ad)); have ac := zA ((by rw [hg]; exact (zF (zz0q HB)) : w.heap.size ≤ ad)); replace HB := zA (zG (zz0q HB) hb); clear hb hbox hg) | ((with_reducible refine gate_dst (N := 7) rfl ?_); refine box_event ?hg (N := 7) ?hd (cs := #[.int .i64 aT, .slice bN aU.length bO]) (t := 34) ?hr ?_; (case hd => rfl); (case hg => rfl); (case hr => first | (go_simp; done) | (go_simp; rfl)); intro am hg pg hbox hb; have ag := zA (hbox); have cJ := zA ((by rw [hg]; exact (zF (zz0h HB ac)) : w.heap.size ≤ am)); have ap := zA ((by rw [hg]; exact (zF (zz0h HB ac)) : w.heap.size ≤ am)); replace HB := zA (zG (zz0h HB ac) hb); have aC := zA ((by rw [hg]; exact Nat.ne_of_lt (blk_lt (g := ad) (o := .cells #[.int .i64 ae, .int .i64 al, .slice az ab.length aq, .slice ay af.length av, .slice ar ai.length au, .slice aw ah.length ax] 32 (0, 0)) (zz0s aa)) : ad ≠ am)); have aD := zA ((by rw [hg]; exact Nat.ne_of_gt (blk_lt (g := ad) (o := .cells #[.int .i64 ae, .int .i64 al, .slice az ab.length aq, .slice ay af.length av, .slice ar ai.length au, .slice aw ah.length ax] 32 (0, 0)) (zz0s aa)) : am ≠ ad)); replace aa := zA (zMp aa.out hb); clear hb hbox hg; have nY := aD.out; have nZ := aC.out; obtain ⟨g1, g2⟩ := zk2 ag.out; have kG := zL ag.out 1) | (go_at_call 62; (with_reducible refine (spec_l7No.calls k aT a4 a5 a7 _ qf.out).mono ?_); rintro e w' ⟨rfl, ⟨nd, rfl⟩⟩; (try first | exact ⟨rfl, _, World.drewN_drewN _ _ _⟩ | exact ⟨rfl, _, Eq.trans (World.drewN_drewN _ _ _) (congrArg (World.drewN _) (Nat.add_assoc _ _ _))⟩); have b8 : 0 ≤ (a7 : Int) := of_decide_eq_true zz1b; have b9 : a7 < (aU.length : Int) := of_decide_eq_true zz1b; obtain ⟨dP, ev, ew, dC, aG, bu, bv⟩ := at_L1 cx.out a7 b8 b9; cases dC; replace aG := (HB.out.cell (World.block_lt_of_cell? w _ aG)).trans aG; have bP := zA bv; have cD := zA bu; clear bv bu; replace b8 := eq_true b8; replace b9 := eq_true b9) | (go_at_call 65; (with_reducible refine (spec_l1Has.calls k _ _ (rd_L1 aU a7) a3 cp _ ?aj ?ak qS.out).mono ?_); (case aj => repeat (first | exact (zS bP.out (zz0e HB ac ap)) | refine zP ?_ _ | refine zQ ?_ _ | refine zR ?_)); (case ak => exact cD.out); rintro e w' ⟨rfl, ⟨nd, rfl⟩⟩; (try first | exact ⟨rfl, _, World.drewN_drewN _ _ _⟩ | exact ⟨rfl, _, Eq.trans (World.drewN_drewN _ _ _) (congrArg (World.drewN _) (Nat.add_assoc _ _ _))⟩))); (repeat (go_quiet (first | ((with_reducible refine gate_dst (N := 6) rfl ?_); refine box_event ?hg (N := 6) ?hd (cs := #[.int .i64 ae, .int .i64 al, .slice az ab.length aq, .slice ay af.length av, .slice ar ai.length au, .slice aw ah.length ax]) (t := 32) ?hr ?_; (case hd => rfl); (case hg => rfl); (case hr => first | (go_simp; done) | (go_simp; rfl)); intro ad hg qt hbox hb; have aa := zA (hbox); have bD := zA ((by rw [hg]; exact (zF (zz0q HB)) : w.heap.size ≤ ad)); have ac := zA ((by rw [hg]; exact (zF (zz0q HB)) : w.heap.size ≤ ad)); replace HB := zA (zG (zz0q HB) hb); clear hb hbox hg) | ((with_reducible refine gate_dst (N := 7) rfl ?_); refine box_event ?hg (N := 7) ?hd (cs := #[.int .i64 aT, .slice bN aU.length bO]) (t := 34) ?hr ?_; (case hd => rfl); (case hg => rfl); (case hr => first | (go_simp; done) | (go_simp; rfl)); intro am hg pg hbox hb; have ag := zA (hbox); have cJ := zA ((by rw [hg]; exact (zF (zz0h HB ac)) : w.heap.size ≤ am)); have ap := zA ((by rw [hg]; exact (zF (zz0h HB ac)) : w.heap.size ≤ am)); replace HB := zA (zG (zz0h HB ac) hb); have aC := zA ((by rw [hg]; exact Nat.ne_of_lt (blk_lt (g := ad) (o := .cells #[.int .i64 ae, .int .i64 al, .slice az ab.length aq, .slice ay af.length av, .slice ar ai.length au, .slice aw ah.length ax] 32 (0, 0)) (zz0s aa)) : ad ≠ am)); have aD := zA ((by rw [hg]; exact Nat.ne_of_gt (blk_lt (g := ad) (o := .cells #[.int .i64 ae, .int .i64 al, .slice az ab.length aq, .slice ay af.length av, .slice ar ai.length au, .slice aw ah.length ax] 32 (0, 0)) (zz0s aa)) : am ≠ ad)); replace aa := zA (zMp aa.out hb); clear hb hbox hg; have nY := aD.out; have nZ := aC.out; obtain ⟨g1, g2⟩ := zk2 ag.out; have kG := zL ag.out 1) | (go_at_call 62; (with_reducible refine (spec_l7No.calls k aT a4 a5 a7 _ qf.out).mono ?_); rintro e w' ⟨rfl, ⟨nd, rfl⟩⟩; (try first | exact ⟨rfl, _, World.drewN_drewN _ _ _⟩ | exact ⟨rfl, _, Eq.trans (World.drewN_drewN _ _ _) (congrArg (World.drewN _) (Nat.add_assoc _ _ _))⟩); have b8 : 0 ≤ (a7 : Int) := of_decide_eq_true zz1b; have b9 : a7 < (aU.length : Int) := of_decide_eq_true zz1b; obtain ⟨dP, ev, ew, dC, aG, bu, bv⟩ := at_L1 cx.out a7 b8 b9; cases dC; replace aG := (HB.out.cell (World.block_lt_of_cell? w _ aG)).trans aG; have bP := zA bv; have cD := zA bu; clear bv bu; replace b8 := eq_true b8; replace b9 := eq_true b9) | (go_at_call 65; (with_reducible refine (spec_l1Has.calls k _ _ (rd_L1 aU a7) a3 cp _ ?aj ?ak qS.out).mono ?_); (case aj => repeat (first | exact (zS bP.out (zz0e HB ac ap)) | refine zP ?_ _ | refine zQ ?_ _ | refine zR ?_)); (case ak => exact cD.out); rintro e w' ⟨rfl, ⟨nd, rfl⟩⟩; (try first | exact ⟨rfl, _, World.drewN_drewN _ _ _⟩ | exact ⟨rfl, _, Eq.trans (World.drewN_drewN _ _ _) (congrArg (World.drewN _) (Nat.add_assoc _ _ _))⟩))); try go_wp2_with (first | ((with_reducible refine gate_dst (N := 6) rfl ?_); refine box_event ?hg (N := 6) ?hd (cs := #[.int .i64 ae, .int .i64 al, .slice az ab.length aq, .slice ay af.length av, .slice ar ai.length au, .slice aw ah.length ax]) (t := 32) ?hr ?_; (case hd => rfl); (case hg => rfl); (case hr => first | (go_simp; done) | (go_simp; rfl)); intro ad hg qt hbox hb; have aa := zA (hbox); have bD := zA ((by rw [hg]; exact (zF (zz0q HB)) : w.heap.size ≤ ad)); have ac := zA ((by rw [hg]; exact (zF (zz0q HB)) : w.heap.size ≤ ad)); replace HB := zA (zG (zz0q HB) hb); clear hb hbox hg) | ((with_reducible refine gate_dst (N := 7) rfl ?_); refine box_event ?hg (N := 7) ?hd (cs := #[.int .i64 aT, .slice bN aU.length bO]) (t := 34) ?hr ?_; (case hd => rfl); (case hg => rfl); (case hr => first | (go_simp; done) | (go_simp; rfl)); intro am hg pg hbox hb; have ag := zA (hbox); have cJ := zA ((by rw [hg]; exact (zF (zz0h HB ac)) : w.heap.size ≤ am)); have ap := zA ((by rw [hg]; exact (zF (zz0h HB ac)) : w.heap.size ≤ am)); replace HB := zA (zG (zz0h HB ac) hb); have aC := zA ((by rw [hg]; exact Nat.ne_of_lt (blk_lt (g := ad) (o := .cells #[.int .i64 ae, .int .i64 al, .slice az ab.length aq, .slice ay af.length av, .slice ar ai.length au, .slice aw ah.length ax] 32 (0, 0)) (zz0s aa)) : ad ≠ am)); have aD := zA ((by rw [hg]; exact Nat.ne_of_gt (blk_lt (g := ad) (o := .cells #[.int .i64 ae, .int .i64 al, .slice az ab.length aq, .slice ay af.length av, .slice ar ai.length au, .slice aw ah.length ax] 32 (0, 0)) (zz0s aa)) : am ≠ ad)); replace aa := zA (zMp aa.out hb); clear hb hbox hg; have nY := aD.out; have nZ := aC.out; obtain ⟨g1, g2⟩ := zk2 ag.out; have kG := zL ag.out 1) | (go_at_call 62; (with_reducible refine (spec_l7No.calls k aT a4 a5 a7 _ qf.out).mono ?_); rintro e w' ⟨rfl, ⟨nd, rfl⟩⟩; (try first | exact ⟨rfl, _, World.drewN_drewN _ _ _⟩ | exact ⟨rfl, _, Eq.trans (World.drewN_drewN _ _ _) (congrArg (World.drewN _) (Nat.add_assoc _ _ _))⟩); have b8 : 0 ≤ (a7 : Int) := of_decide_eq_true zz1b; have b9 : a7 < (aU.length : Int) := of_decide_eq_true zz1b; obtain ⟨dP, ev, ew, dC, aG, bu, bv⟩ := at_L1 cx.out a7 b8 b9; cases dC; replace aG := (HB.out.cell (World.block_lt_of_cell? w _ aG)).trans aG; have bP := zA bv; have cD := zA bu; clear bv bu; replace b8 := eq_true b8; replace b9 := eq_true b9) | (go_at_call 65; (with_reducible refine (spec_l1Has.calls k _ _ (rd_L1 aU a7) a3 cp _ ?aj ?ak qS.out).mono ?_); (case aj => repeat (first | exact (zS bP.out (zz0e HB ac ap)) | refine zP ?_ _ | refine zQ ?_ _ | refine zR ?_)); (case ak => exact cD.out); rintro e w' ⟨rfl, ⟨nd, rfl⟩⟩; (try first | exact ⟨rfl, _, World.drewN_drewN _ _ _⟩ | exact ⟨rfl, _, Eq.trans (World.drewN_drewN _ _ _) (congrArg (World.drewN _) (Nat.add_assoc _ _ _))⟩))))); go_ret; exact ⟨zz0r, zz0e HB ac ap⟩
end Go.Proofs.YtkocahlifffgjaaGreat.P
