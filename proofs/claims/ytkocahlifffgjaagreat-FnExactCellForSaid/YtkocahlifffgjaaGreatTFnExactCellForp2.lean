/- A part of the proofs of some laws of this seat (words of the print and texts of this session, without what these laws do not use). -/
import Derived.Test.YtkocahlifffgjaaGreatTFnExactCellForp1
import Derived.Test.YtkocahlifffgjaaGreatProg
import Derived.Shelf.SlLaysE
import Derived.Shelf.SlLaysF
import Derived.Shelf.SlLaysM
import Derived.Test.YtkocahlifffgjaaGreatTFnExactCellForp0
import Derived.Shelf.SortM.Plain
import Derived.Shelf.SortM.SortNone
import Derived.Sort.OwnSortedInts
import Derived.Shelf.SlicesE.Compact
import Derived.Lib.SliceRun
import Derived.Shelf.SlSortCmp.NoneTotal
import Derived.BigQuiet
import Derived.Shelf.Abstract
import Derived.Maps.RangeWalk
namespace Go.Proofs.YtkocahlifffgjaaGreat.P
open Go.RowKit Go.Proofs.YtkocahlifffgjaaGreatW.PrintWords
set_option linter.unusedVariables false
set_option linter.unusedSimpArgs false
def setB (s : List Bool) : List Int := ((List.range s.length).filter fun i => s.getD i false).map fun i : Nat => (i : Int)
theorem mem_setB (s : List Bool) (x : Int) : x ∈ setB s ↔ (0 ≤ x ∧ x < s.length) ∧ s.getD x.toNat false = true := by
 unfold setB; rw [List.mem_map]; constructor
 · rintro ⟨i, hi, rfl⟩; rw [List.mem_filter, List.mem_range] at hi; exact ⟨⟨zz1g, zz1g⟩, by rw [Int.toNat_natCast]; exact hi.2⟩
 · rintro ⟨⟨h0, h1⟩, h⟩; exact ⟨x.toNat, by rw [List.mem_filter, List.mem_range]; exact ⟨zz1g, h⟩, zz1g⟩
theorem setB_up (s : List Bool) : UpI (setB s) := by
 unfold setB UpI; rw [List.pairwise_map]; exact (List.pairwise_lt_range.filter _).imp fun h => by omega
theorem setB_len (s : List Bool) : (setB s).length ≤ s.length := by
 unfold setB; rw [List.length_map]; exact Nat.le_trans (List.length_filter_le _ _) (by rw [List.length_range]; exact Nat.le_refl _)
theorem setB_of {s : List Bool} {a : List Int} (ha : UpI a) (h : ∀ x, x ∈ a ↔ (0 ≤ x ∧ x < s.length) ∧ s.getD x.toNat false = true) : a = setB s := upI_ext ha (setB_up s) fun x => (h x).trans (mem_setB s x).symm
theorem rd_in {l : List Int} {j : Nat} (hj : j < l.length) : rd l j ∈ l := by
 unfold rd; rw [Int.toNat_natCast, List.getD_eq_getElem?_getD, List.getElem?_eq_getElem hj]; exact List.getElem_mem hj
theorem in_rd {l : List Int} {x : Int} (h : x ∈ l) : ∃ j : Nat, j < l.length ∧ rd l j = x := by
 obtain ⟨j, hj, rfl⟩ := List.getElem_of_mem h; refine ⟨j, hj, ?_⟩; unfold rd; rw [Int.toNat_natCast, List.getD_eq_getElem?_getD, List.getElem?_eq_getElem hj]; rfl
theorem rd_drop1 {l : List Int} (j : Nat) : rd (l.drop 1) j = rd l ((j + 1 : Nat) : Int) := by
 unfold rd; rw [Int.toNat_natCast, Int.toNat_natCast, List.getD_eq_getElem?_getD, List.getD_eq_getElem?_getD, List.getElem?_drop, Nat.add_comm]
def RowIn (nons toks : Int) (l : List Int) : Prop := (0 ≤ rd l 0 ∧ rd l 0 < nons) ∧ ∀ j : Nat, 1 ≤ j → j < l.length → -toks ≤ rd l j ∧ rd l j < nons
structure OkB (nons toks : Int) (ps os : List (List Int)) (es : List Int) : Prop where
 n : 1 ≤ nons ∧ nons ≤ 40
 t : 1 ≤ toks ∧ toks ≤ 4
 e : ∀ x, x ∈ es → 0 ≤ x ∧ x < nons
 eu : UpI es
 p : ∀ x, x ∈ ps → x.length = 3 ∧ RowIn nons toks x
 o : ∀ x, x ∈ os → x.length = 2 ∧ RowIn nons toks x
theorem riseF_parts (lo hi : Int) : ∀ (p : Option Int) (l : List Int), riseF lo hi p l = true → (∀ x, x ∈ l → lo ≤ x ∧ x ≤ hi) ∧ UpI l ∧ ∀ y, p = some y → ∀ x, x ∈ l → y < x
 | _, [], _ => ⟨(fun _ h => by cases h), List.Pairwise.nil, (fun _ _ _ h => by cases h)⟩
 | p, x :: l, h => by
  simp only [riseF, Bool.and_eq_true, decide_eq_true_eq] at h; obtain ⟨h1, h2, h3⟩ := riseF_parts lo hi (some x) l h.2.2; refine ⟨fun z hz => (List.mem_cons.1 hz).elim (fun e => by rw [e]; exact h.1) (h1 z), List.pairwise_cons.2 ⟨h3 x rfl, h2⟩, fun y hy z hz => ?_⟩; subst hy; have h4 : y < x := by simpa using h.2.1
  rcases List.mem_cons.1 hz with e | e
  · rw [e]; exact h4
  · have := h3 x rfl z e; omega
theorem listsF_mem (nons toks many : Int) : ∀ (p : Option (List Int)) (l : List (List Int)), listsF nons toks many p l = true → ∀ x, x ∈ l → rowOk nons toks many x = true
 | _, [], _, _, h => by cases h
 | p, y :: l, h, x, hx => by
  simp only [listsF, Bool.and_eq_true] at h; rcases List.mem_cons.1 hx with e | e
  · rw [e]; exact h.1
  · exact listsF_mem nons toks many (some y) l h.2.2 x e
theorem rowOk_parts {nons toks many : Int} (hn : 1 ≤ nons ∧ nons ≤ 40) (ht : 1 ≤ toks ∧ toks ≤ 4) {x : List Int} (h : rowOk nons toks many x = true) : (x.length : Int) = many ∧ RowIn nons toks x := by
 have hw : wrap64 (nons - 1) = nons - 1 := w64 zz1g zz1g; have hw2 : wrap64 (-toks) = -toks := w64 zz1g zz1g; unfold rowOk at h; simp only [Bool.and_eq_true, decide_eq_true_eq, Bool.not_eq_true', List.any_eq_false] at h; obtain ⟨h1, h2, h3⟩ := h; rw [hw] at h2; refine ⟨h1, ⟨h2.1, zz1g⟩, fun j hj1 hj2 => ?_⟩; have h4 := h3 (rd x j) (by
  have := rd_in (l := x.drop 1) (j := j - 1) (by rw [List.length_drop]; omega); rwa [rd_drop1, show j - 1 + 1 = j by omega] at this)
 unfold symB at h4; rw [hw, hw2] at h4; simp at h4; exact ⟨h4.1, zz1g⟩
theorem goodB_ok {nons toks : Int} {ps os : List (List Int)} {es : List Int} {fs : List (List Int)} (h : goodB nons toks ps os es fs = true) : OkB nons toks ps os es := by
 unfold goodB at h; simp only [Bool.and_eq_true, decide_eq_true_eq] at h; obtain ⟨hn, ht, hr, _, _, hp, ho⟩ := h; have hw : wrap64 (nons - 1) = nons - 1 := w64 zz1g zz1g; rw [hw] at hr; obtain ⟨r1, r2, _⟩ := riseF_parts _ _ _ _ hr; refine ⟨hn, ht, fun x hx => by have := r1 x hx; omega, r2, fun x hx => ?_, fun x hx => ?_⟩
 · obtain ⟨h1, h2⟩ := rowOk_parts hn ht (listsF_mem _ _ _ _ _ hp x hx); exact ⟨zz1g, h2⟩
 · obtain ⟨h1, h2⟩ := rowOk_parts hn ht (listsF_mem _ _ _ _ _ ho x hx); exact ⟨zz1g, h2⟩
inductive NulR (es : List Int) (rows : List (List Int)) : Int → Prop
 | base {x : Int} : x ∈ es → NulR es rows x
 | step {l : List Int} : l ∈ rows → (∀ j : Nat, 1 ≤ j → j < l.length → 0 ≤ rd l j) → (∀ j : Nat, 1 ≤ j → j < l.length → NulR es rows (rd l j)) → NulR es rows (rd l 0)
theorem NulR.least {es : List Int} {rows : List (List Int)} {T : Int → Prop} (h : ∀ x, x ∈ es → T x) (hc : ∀ l, l ∈ rows → (∀ j : Nat, 1 ≤ j → j < l.length → 0 ≤ rd l j ∧ T (rd l j)) → T (rd l 0)) {x : Int} (hx : NulR es rows x) : T x := by
 induction hx with
 | base h1 => exact h _ h1
 | step h1 h2 _ ih => exact hc _ h1 fun j a b => ⟨h2 j a b, ih j a b⟩
def cntN (s : List Bool) : Nat := s.count false
theorem cntN_set (s : List Bool) (i : Nat) (hi : i < s.length) (h : s.getD i false = false) : cntN (s.set i true) + 1 = cntN s := by
 unfold cntN
 induction s generalizing i with
 | nil => simp at hi
 | cons b s ih =>
  cases i with
  | zero =>
   have hb : b = false := by simpa using h
   subst hb; simp [List.count_cons]
  | succ i =>
   have := ih i (by simpa using hi) (by simpa using h); simp only [List.set_cons_succ, List.count_cons]; omega
def nulQ (s : List Bool) (x : Int) : Bool := decide (x < 0) || !s.getD x.toNat false
structure NulI (n : Nat) (es : List Int) (rows : List (List Int)) (s : List Bool) : Prop where
 len : s.length = n
 lo : ∀ x, x ∈ es → s.getD x.toNat false = true
 hi : ∀ i : Nat, i < n → s.getD i false = true → NulR es rows i
theorem getD_set_true {s : List Bool} {i j : Nat} (hi : i < s.length) : (s.set i true).getD j false = (if j = i then true else s.getD j false) := by
 rw [List.getD_eq_getElem?_getD, List.getD_eq_getElem?_getD, List.getElem?_set]; by_cases c : i = j
 · subst c; rw [if_pos rfl, if_pos hi, if_pos rfl]; rfl
 · rw [if_neg c, if_neg (fun e => c e.symm)]
theorem nulQ_all {s : List Bool} {l : List Int} : (l.drop 1).any (nulQ s) = false ↔ ∀ j : Nat, 1 ≤ j → j < l.length → 0 ≤ rd l j ∧ s.getD (rd l j).toNat false = true := by
 rw [List.any_eq_false]; constructor
 · intro h j h1 h2; have := h (rd l j) (by
    have := rd_in (l := l.drop 1) (j := j - 1) (by rw [List.length_drop]; omega); rwa [rd_drop1, show j - 1 + 1 = j by omega] at this)
   unfold nulQ at this; simp at this; exact ⟨this.1, by simpa using this.2⟩
 · intro h x hx; obtain ⟨j, hj, rfl⟩ := in_rd hx; rw [List.length_drop] at hj; rw [rd_drop1]; obtain ⟨h1, h2⟩ := h (j + 1) zz1g zz1g; unfold nulQ; rw [h2, decide_eq_false zz1g]; decide
theorem nulI_set {n : Nat} {es : List Int} {rows : List (List Int)} {s : List Bool} (h : NulI n es rows s) {l : List Int} (hl : l ∈ rows) (h0 : 0 ≤ rd l 0 ∧ rd l 0 < n) (hb : ∀ j : Nat, 1 ≤ j → j < l.length → rd l j < n) (hq : (l.drop 1).any (nulQ s) = false) : NulI n es rows (s.set (rd l 0).toNat true) := by
 have hlen := h.len; refine ⟨by rw [List.length_set]; exact h.len, fun x hx => ?_, fun i hi hs => ?_⟩
 · rw [getD_set_true zz1g, h.lo x hx]; split <;> rfl
 · rw [getD_set_true zz1g] at hs; by_cases c : i = (rd l 0).toNat
   · subst c; have hq' := nulQ_all.1 hq; rw [show (((rd l 0).toNat : Nat) : Int) = rd l 0 by omega]; refine .step hl (fun j a b => (hq' j a b).1) (fun j a b => ?_); have h5 := hq' j a b; have h6 := hb j a b; have := h.hi (rd l j).toNat zz1g h5.2; rwa [show (((rd l j).toNat : Nat) : Int) = rd l j by omega] at this
   · rw [if_neg c] at hs; exact h.hi i hi hs
def rowDone (s : List Bool) (l : List Int) : Prop := s.getD (rd l 0).toNat false = true ∨ (l.drop 1).any (nulQ s) = true
theorem nulI_mem {n : Nat} {es : List Int} {rows : List (List Int)} {s : List Bool} (h : NulI n es rows s) (he : ∀ x, x ∈ es → 0 ≤ x) (hr : ∀ l, l ∈ rows → 0 ≤ rd l 0) (hd : ∀ l, l ∈ rows → rowDone s l) (i : Nat) (hi : i < n) : s.getD i false = true ↔ NulR es rows i := by
 refine ⟨h.hi i hi, fun hx => ?_⟩; have : (0 : Int) ≤ (i : Int) ∧ s.getD ((i : Int)).toNat false = true := hx.least (T := fun x => 0 ≤ x ∧ s.getD x.toNat false = true) (fun x hx => ⟨he x hx, h.lo x hx⟩) (fun l hl hj => ⟨hr l hl, (hd l hl).elim id (fun hq => by rw [(nulQ_all (s := s) (l := l)).2 fun j a b => (hj j a b).2] at hq; cases hq)⟩); rw [Int.toNat_natCast] at this; exact this.2
theorem nulI_ext {n : Nat} {es : List Int} {rows : List (List Int)} {s t : List Bool} (h : NulI n es rows s) (k : NulI n es rows t) (he : ∀ x, x ∈ es → 0 ≤ x) (hr : ∀ l, l ∈ rows → 0 ≤ rd l 0) (hd : ∀ l, l ∈ rows → rowDone s l) (kd : ∀ l, l ∈ rows → rowDone t l) : s = t := by
 have hl := h.len; have kl := k.len; apply List.ext_getElem?; intro i; by_cases hi : i < n
 · have key : s.getD i false = t.getD i false := by
    rw [Bool.eq_iff_iff, nulI_mem h he hr hd i hi, nulI_mem k he hr kd i hi]
   rw [List.getD_eq_getElem?_getD, List.getD_eq_getElem?_getD, List.getElem?_eq_getElem zz1g, List.getElem?_eq_getElem zz1g] at key; rw [List.getElem?_eq_getElem zz1g, List.getElem?_eq_getElem zz1g]; exact congrArg some key
 · rw [List.getElem?_eq_none zz1g, List.getElem?_eq_none zz1g]
def stepN (s : List Bool) (l : List Int) : List Bool := if (l.drop 1).any (nulQ s) = true then s else s.set (rd l 0).toNat true
def passN (rows : List (List Int)) (s : List Bool) : List Bool := rows.foldl stepN s
def iterN (rows : List (List Int)) : Nat → List Bool → List Bool
 | 0, s => s
 | k + 1, s => iterN rows k (passN rows s)
def nulV (n : Nat) (es : List Int) (rows : List (List Int)) : List Bool := iterN rows (n + 1) ((List.range n).map fun i : Nat => decide ((i : Int) ∈ es))
def rowsIn (n : Nat) (rows : List (List Int)) : Prop := ∀ l, l ∈ rows → (0 ≤ rd l 0 ∧ rd l 0 < n) ∧ ∀ j : Nat, 1 ≤ j → j < l.length → rd l j < n
theorem stepN_ok {n : Nat} {es : List Int} {rows : List (List Int)} (hr : rowsIn n rows) {s : List Bool} (h : NulI n es rows s) {l : List Int} (hl : l ∈ rows) :
 NulI n es rows (stepN s l) ∧ cntN (stepN s l) ≤ cntN s ∧ (cntN (stepN s l) = cntN s → stepN s l = s ∧ rowDone s l) := by
 unfold stepN; cases hq : (l.drop 1).any (nulQ s) with
 | true => exact ⟨h, Nat.le_refl _, fun _ => ⟨rfl, .inr hq⟩⟩
 | false =>
  rw [if_neg zz1f]; have h0 := (hr l hl).1; have hlen := h.len; refine ⟨nulI_set h hl h0 (hr l hl).2 hq, ?_⟩; cases hv : s.getD (rd l 0).toNat false with
  | true =>
   have e : s.set (rd l 0).toNat true = s := by
    apply List.ext_getElem?; intro i; rw [List.getElem?_set]; by_cases c : (rd l 0).toNat = i
    · subst c; rw [if_pos rfl, if_pos zz1g, List.getElem?_eq_getElem zz1g]; rw [List.getD_eq_getElem?_getD, List.getElem?_eq_getElem zz1g] at hv; exact congrArg some hv.symm
    · rw [if_neg c]
   rw [e]; exact ⟨Nat.le_refl _, fun _ => ⟨rfl, .inl hv⟩⟩
  | false =>
   have := cntN_set s (rd l 0).toNat zz1g hv; exact ⟨zz1g, fun h => by omega⟩
theorem passN_ok {n : Nat} {es : List Int} {rows : List (List Int)} (hr : rowsIn n rows) : ∀ (ls : List (List Int)), (∀ l, l ∈ ls → l ∈ rows) → ∀ s : List Bool, NulI n es rows s →
 NulI n es rows (ls.foldl stepN s) ∧ cntN (ls.foldl stepN s) ≤ cntN s ∧ (cntN (ls.foldl stepN s) = cntN s → ls.foldl stepN s = s ∧ ∀ l, l ∈ ls → rowDone s l) := by
 intro ls
 induction ls with
 | nil => intro _ s h; exact ⟨h, Nat.le_refl _, fun _ => ⟨rfl, fun l hl => by cases hl⟩⟩
 | cons l ls ih =>
  intro hs s h; obtain ⟨a1, a2, a3⟩ := stepN_ok hr h (hs l List.mem_cons_self); obtain ⟨b1, b2, b3⟩ := ih (fun x hx => hs x (List.mem_cons_of_mem _ hx)) (stepN s l) a1; refine ⟨b1, Nat.le_trans b2 a2, fun e => ?_⟩; have e1 : cntN (stepN s l) = cntN s := by simp only [List.foldl_cons] at e; omega
  obtain ⟨c1, c2⟩ := a3 e1; rw [c1] at b1 b2 b3; simp only [List.foldl_cons, c1] at e ⊢; obtain ⟨d1, d2⟩ := b3 e; exact ⟨d1, fun x hx => (List.mem_cons.1 hx).elim (fun e => by rw [e]; exact c2) (d2 x)⟩
theorem iterN_ok {n : Nat} {es : List Int} {rows : List (List Int)} (hr : rowsIn n rows) (k : Nat) : ∀ s : List Bool, NulI n es rows s → cntN s < k → NulI n es rows (iterN rows k s) ∧ ∀ l, l ∈ rows → rowDone (iterN rows k s) l := by
 induction k with
 | zero => intro s _ h; omega
 | succ k ih =>
  intro s h hc; obtain ⟨a1, a2, a3⟩ := passN_ok hr rows (fun _ h => h) s h; by_cases e : cntN (passN rows s) = cntN s
  · obtain ⟨b1, b2⟩ := a3 e; have fix : ∀ m, iterN rows m s = s := by
     intro m
     induction m with
     | zero => rfl
     | succ m ihm => show iterN rows m (passN rows s) = s; rw [show passN rows s = s from b1]; exact ihm
    rw [fix]; exact ⟨h, b2⟩
  · show NulI n es rows (iterN rows k (passN rows s)) ∧ _; have a4 : cntN (passN rows s) ≤ cntN s := a2; exact ih _ a1 zz1g
theorem cntN_le (s : List Bool) : cntN s ≤ s.length := List.count_le_length
theorem nulV_ok {n : Nat} {es : List Int} {rows : List (List Int)} (hr : rowsIn n rows) (he : ∀ x, x ∈ es → 0 ≤ x ∧ x < n) : NulI n es rows (nulV n es rows) ∧ ∀ l, l ∈ rows → rowDone (nulV n es rows) l := by
 have hl : ((List.range n).map fun i : Nat => decide ((i : Int) ∈ es)).length = n := by rw [List.length_map, List.length_range]
 have hg : ∀ i : Nat, i < n → ((List.range n).map fun i : Nat => decide ((i : Int) ∈ es)).getD i false = decide ((i : Int) ∈ es) := fun i hi => by
  rw [List.getD_eq_getElem?_getD, List.getElem?_map, List.getElem?_range hi]; rfl
 refine iterN_ok hr (n + 1) _ ⟨hl, fun x hx => ?_, fun i hi h => ?_⟩ (Nat.lt_succ_of_le (by have := cntN_le ((List.range n).map fun i : Nat => decide ((i : Int) ∈ es)); rw [hl] at this; exact this))
 · have := he x hx; rw [hg x.toNat zz1g]; exact decide_eq_true (by rw [show ((x.toNat : Nat) : Int) = x by omega]; exact hx)
 · rw [hg i hi] at h; exact .base (of_decide_eq_true h)
theorem nulV_len {n : Nat} {es : List Int} {rows : List (List Int)} (hr : rowsIn n rows) (he : ∀ x, x ∈ es → 0 ≤ x ∧ x < n) : (nulV n es rows).length = n := (nulV_ok hr he).1.len
theorem nulV_at {n : Nat} {es : List Int} {rows : List (List Int)} (hr : rowsIn n rows) (he : ∀ x, x ∈ es → 0 ≤ x ∧ x < n) {i : Nat} (hi : i < n) : (nulV n es rows).getD i false = true ↔ NulR es rows i :=
 nulI_mem (nulV_ok hr he).1 (fun x hx => (he x hx).1) (fun l hl => (hr l hl).1.1) (nulV_ok hr he).2 i hi
theorem nulI_end {n : Nat} {es : List Int} {rows : List (List Int)} {s : List Bool} (h : NulI n es rows s) (hr : rowsIn n rows) (he : ∀ x, x ∈ es → 0 ≤ x ∧ x < n) (hd : ∀ l, l ∈ rows → rowDone s l) : s = nulV n es rows :=
 nulI_ext h (nulV_ok hr he).1 (fun x hx => (he x hx).1) (fun l hl => (hr l hl).1.1) hd (nulV_ok hr he).2
theorem okB_rows {n : Nat} {toks : Int} {ps os : List (List Int)} {es : List Int} (h : OkB (n : Int) toks ps os es) : rowsIn n (ps ++ os) := fun l hl => (List.mem_append.1 hl).elim (fun hl => ⟨(h.p l hl).2.1, fun j a b => ((h.p l hl).2.2 j a b).2⟩) (fun hl => ⟨(h.o l hl).2.1, fun j a b => ((h.o l hl).2.2 j a b).2⟩)
end Go.Proofs.YtkocahlifffgjaaGreat.P
namespace Go.Proofs
open Go.Shelf
def Tryz.srt_ren : Go.Shelf.Ren := ⟨fun | 5 => 75 | 8 => 87 | 7 => 86 | 19 => 101 | 20 => 102 | 10 => 92 | 11 => 93 | 12 => 94 | 13 => 95 | 14 => 96 | 15 => 97 | 16 => 98 | 17 => 99 | 18 => 100 | 30 => 111 | 31 => 112 | 32 => 113 | 33 => 114 | 34 => 115 | 35 => 81 | 40 => 119 | n => n, fun | 23 => 23 | 25 => 3 | 3 => 3 | 32 => 94 | 22 => 23 | 0 => 0 | 44 => 105 | 46 => 107 | 4 => 4 | 36 => 98 | 35 => 97 | 41 => 102 | 5 => 5 | 9 => 9 | 53 => 113 | 57 => 117 | 63 => 121 | 64 => 122 | n => n, fun | n => n⟩
theorem Tryz.srt : Go.Proofs.SlLaysM.n5 Tryz.prog Tryz.srt_ren := {
 mixed := by kernel_rfl,
 f5 := ⟨Tryz.f75.name, by decide, Tryz.func75.trans (congrArg some (by kernel_rfl))⟩,
 f7 := ⟨Tryz.f86.name, by decide, Tryz.func86.trans (congrArg some (by kernel_rfl))⟩,
 f8 := Tryz.func87.trans (congrArg some (by kernel_rfl)),
 f10 := ⟨Tryz.f92.name, by decide, Tryz.func92.trans (congrArg some (by kernel_rfl))⟩,
 f11 := ⟨Tryz.f93.name, by decide, Tryz.func93.trans (congrArg some (by kernel_rfl))⟩,
 f12 := ⟨Tryz.f94.name, by decide, Tryz.func94.trans (congrArg some (by kernel_rfl))⟩,
 f13 := ⟨Tryz.f95.name, by decide, Tryz.func95.trans (congrArg some (by kernel_rfl))⟩,
 f14 := ⟨Tryz.f96.name, by decide, Tryz.func96.trans (congrArg some (by kernel_rfl))⟩,
 f15 := ⟨Tryz.f97.name, by decide, Tryz.func97.trans (congrArg some (by kernel_rfl))⟩,
 f16 := ⟨Tryz.f98.name, by decide, Tryz.func98.trans (congrArg some (by kernel_rfl))⟩,
 f17 := ⟨Tryz.f99.name, by decide, Tryz.func99.trans (congrArg some (by kernel_rfl))⟩,
 f18 := ⟨Tryz.f100.name, by decide, Tryz.func100.trans (congrArg some (by kernel_rfl))⟩,
 f19 := Tryz.func101.trans (congrArg some (by kernel_rfl)),
 f20 := Tryz.func102.trans (congrArg some (by kernel_rfl)),
 f30 := ⟨Tryz.f111.name, by decide, Tryz.func111.trans (congrArg some (by kernel_rfl))⟩,
 f31 := Tryz.func112.trans (congrArg some (by kernel_rfl)),
 f32 := Tryz.func113.trans (congrArg some (by kernel_rfl)),
 f33 := ⟨Tryz.f114.name, by decide, Tryz.func114.trans (congrArg some (by kernel_rfl))⟩,
 f34 := ⟨Tryz.f115.name, by decide, Tryz.func115.trans (congrArg some (by kernel_rfl))⟩,
 f35 := ⟨Tryz.f81.name, by decide, Tryz.func81.trans (congrArg some (by kernel_rfl))⟩,
 f40 := ⟨Tryz.f119.name, by decide, Tryz.func119.trans (congrArg some (by kernel_rfl))⟩,
 t0 := Tryz.underlying0,
 a0 := Tryz.isAgg0,
 z0 := Tryz.sizeOf0,
 v0 := Tryz.zeroValue0,
 t3 := Tryz.underlying3,
 a3 := Tryz.isAgg3,
 z3 := Tryz.sizeOf3,
 v3 := Tryz.zeroValue3,
 t4 := Tryz.underlying4,
 a4 := Tryz.isAgg4,
 z4 := Tryz.sizeOf4,
 v4 := Tryz.zeroValue4,
 t5 := Tryz.underlying5,
 a5 := Tryz.isAgg5,
 z5 := Tryz.sizeOf5,
 v5 := Tryz.zeroValue5,
 t9 := Tryz.underlying9,
 a9 := Tryz.isAgg9,
 z9 := Tryz.sizeOf9,
 v9 := Tryz.zeroValue9,
 t22 := Tryz.underlying23,
 a22 := Tryz.isAgg23,
 z22 := Tryz.sizeOf23,
 v22 := Tryz.zeroValue23,
 t23 := Tryz.underlying23,
 a23 := Tryz.isAgg23,
 z23 := Tryz.sizeOf23,
 v23 := Tryz.zeroValue23,
 t25 := Tryz.underlying3,
 a25 := Tryz.isAgg3,
 z25 := Tryz.sizeOf3,
 v25 := Tryz.zeroValue3,
 t32 := Tryz.underlying94,
 a32 := Tryz.isAgg94,
 z32 := Tryz.sizeOf94,
 v32 := Tryz.zeroValue94,
 t35 := Tryz.underlying97,
 a35 := Tryz.isAgg97,
 z35 := Tryz.sizeOf97,
 v35 := Tryz.zeroValue97,
 t36 := Tryz.underlying98,
 a36 := Tryz.isAgg98,
 z36 := Tryz.sizeOf98,
 v36 := Tryz.zeroValue98,
 t41 := Tryz.underlying102,
 a41 := Tryz.isAgg102,
 z41 := Tryz.sizeOf102,
 v41 := Tryz.zeroValue102,
 t44 := Tryz.underlying105,
 a44 := Tryz.isAgg105,
 z44 := Tryz.sizeOf105,
 v44 := Tryz.zeroValue105,
 t46 := Tryz.underlying107,
 a46 := Tryz.isAgg107,
 z46 := Tryz.sizeOf107,
 v46 := Tryz.zeroValue107,
 t53 := Tryz.underlying113,
 a53 := Tryz.isAgg113,
 z53 := Tryz.sizeOf113,
 v53 := Tryz.zeroValue113,
 t57 := Tryz.underlying117,
 a57 := Tryz.isAgg117,
 z57 := Tryz.sizeOf117,
 v57 := Tryz.zeroValue117,
 t63 := Tryz.underlying121,
 a63 := Tryz.isAgg121,
 z63 := Tryz.sizeOf121,
 v63 := Tryz.zeroValue121,
 t64 := Tryz.underlying122,
 a64 := Tryz.isAgg122,
 z64 := Tryz.sizeOf122,
 v64 := Tryz.zeroValue122
 }
def Tryz.cmpt_ren : Go.Shelf.Ren := ⟨fun | 43 => 89 | n => n, fun | 22 => 23 | 23 => 3 | 3 => 3 | 4 => 4 | 0 => 0 | n => n, fun | n => n⟩
theorem Tryz.cmpt : Go.Proofs.SlLaysE.n43 Tryz.prog Tryz.cmpt_ren := {
 mixed := by kernel_rfl,
 f43 := ⟨Tryz.f89.name, by decide, Tryz.func89.trans (congrArg some (by kernel_rfl))⟩,
 t0 := Tryz.underlying0,
 a0 := Tryz.isAgg0,
 z0 := Tryz.sizeOf0,
 v0 := Tryz.zeroValue0,
 t3 := Tryz.underlying3,
 a3 := Tryz.isAgg3,
 z3 := Tryz.sizeOf3,
 v3 := Tryz.zeroValue3,
 t4 := Tryz.underlying4,
 a4 := Tryz.isAgg4,
 z4 := Tryz.sizeOf4,
 v4 := Tryz.zeroValue4,
 t22 := Tryz.underlying23,
 a22 := Tryz.isAgg23,
 z22 := Tryz.sizeOf23,
 v22 := Tryz.zeroValue23,
 a23 := Tryz.isAgg3,
 z23 := Tryz.sizeOf3
 }
def Tryz.srtf_ren : Go.Shelf.Ren := ⟨fun | 6 => 83 | 15 => 87 | 14 => 91 | 28 => 101 | 29 => 102 | 20 => 103 | 21 => 104 | 22 => 105 | 23 => 106 | 24 => 107 | 25 => 108 | 26 => 109 | 27 => 110 | 46 => 116 | 47 => 112 | 48 => 113 | 49 => 117 | 50 => 118 | 57 => 120 | n => n, fun | 22 => 22 | 24 => 23 | 25 => 69 | 3 => 3 | 39 => 94 | 0 => 0 | 53 => 105 | 55 => 107 | 4 => 4 | 46 => 98 | 45 => 97 | 50 => 102 | 5 => 5 | 9 => 9 | 66 => 113 | 70 => 117 | 76 => 121 | 77 => 122 | n => n, fun | n => n⟩
theorem Tryz.srtf : Go.Proofs.SlLaysF.n6 Tryz.prog Tryz.srtf_ren := {
 mixed := by kernel_rfl,
 f6 := ⟨Tryz.f83.name, by decide, Tryz.func83.trans (congrArg some (by kernel_rfl))⟩,
 f14 := ⟨Tryz.f91.name, by decide, Tryz.func91.trans (congrArg some (by kernel_rfl))⟩,
 f15 := Tryz.func87.trans (congrArg some (by kernel_rfl)),
 f20 := ⟨Tryz.f103.name, by decide, Tryz.func103.trans (congrArg some (by kernel_rfl))⟩,
 f21 := ⟨Tryz.f104.name, by decide, Tryz.func104.trans (congrArg some (by kernel_rfl))⟩,
 f22 := ⟨Tryz.f105.name, by decide, Tryz.func105.trans (congrArg some (by kernel_rfl))⟩,
 f23 := ⟨Tryz.f106.name, by decide, Tryz.func106.trans (congrArg some (by kernel_rfl))⟩,
 f24 := ⟨Tryz.f107.name, by decide, Tryz.func107.trans (congrArg some (by kernel_rfl))⟩,
 f25 := ⟨Tryz.f108.name, by decide, Tryz.func108.trans (congrArg some (by kernel_rfl))⟩,
 f26 := ⟨Tryz.f109.name, by decide, Tryz.func109.trans (congrArg some (by kernel_rfl))⟩,
 f27 := ⟨Tryz.f110.name, by decide, Tryz.func110.trans (congrArg some (by kernel_rfl))⟩,
 f28 := Tryz.func101.trans (congrArg some (by kernel_rfl)),
 f29 := Tryz.func102.trans (congrArg some (by kernel_rfl)),
 f46 := ⟨Tryz.f116.name, by decide, Tryz.func116.trans (congrArg some (by kernel_rfl))⟩,
 f47 := Tryz.func112.trans (congrArg some (by kernel_rfl)),
 f48 := Tryz.func113.trans (congrArg some (by kernel_rfl)),
 f49 := ⟨Tryz.f117.name, by decide, Tryz.func117.trans (congrArg some (by kernel_rfl))⟩,
 f50 := ⟨Tryz.f118.name, by decide, Tryz.func118.trans (congrArg some (by kernel_rfl))⟩,
 f57 := ⟨Tryz.f120.name, by decide, Tryz.func120.trans (congrArg some (by kernel_rfl))⟩,
 t0 := Tryz.underlying0,
 a0 := Tryz.isAgg0,
 z0 := Tryz.sizeOf0,
 v0 := Tryz.zeroValue0,
 t3 := Tryz.underlying3,
 a3 := Tryz.isAgg3,
 z3 := Tryz.sizeOf3,
 v3 := Tryz.zeroValue3,
 t4 := Tryz.underlying4,
 a4 := Tryz.isAgg4,
 z4 := Tryz.sizeOf4,
 v4 := Tryz.zeroValue4,
 t5 := Tryz.underlying5,
 a5 := Tryz.isAgg5,
 z5 := Tryz.sizeOf5,
 v5 := Tryz.zeroValue5,
 t9 := Tryz.underlying9,
 a9 := Tryz.isAgg9,
 z9 := Tryz.sizeOf9,
 v9 := Tryz.zeroValue9,
 t22 := Tryz.underlying22,
 a22 := Tryz.isAgg22,
 z22 := Tryz.sizeOf22,
 v22 := Tryz.zeroValue22,
 a24 := Tryz.isAgg23,
 z24 := Tryz.sizeOf23,
 t25 := Tryz.underlying69,
 a25 := Tryz.isAgg69,
 z25 := Tryz.sizeOf69,
 v25 := Tryz.zeroValue69,
 t39 := Tryz.underlying94,
 a39 := Tryz.isAgg94,
 z39 := Tryz.sizeOf94,
 v39 := Tryz.zeroValue94,
 t45 := Tryz.underlying97,
 a45 := Tryz.isAgg97,
 z45 := Tryz.sizeOf97,
 v45 := Tryz.zeroValue97,
 t46 := Tryz.underlying98,
 a46 := Tryz.isAgg98,
 z46 := Tryz.sizeOf98,
 v46 := Tryz.zeroValue98,
 t50 := Tryz.underlying102,
 a50 := Tryz.isAgg102,
 z50 := Tryz.sizeOf102,
 v50 := Tryz.zeroValue102,
 t53 := Tryz.underlying105,
 a53 := Tryz.isAgg105,
 z53 := Tryz.sizeOf105,
 v53 := Tryz.zeroValue105,
 t55 := Tryz.underlying107,
 a55 := Tryz.isAgg107,
 z55 := Tryz.sizeOf107,
 v55 := Tryz.zeroValue107,
 t66 := Tryz.underlying113,
 a66 := Tryz.isAgg113,
 z66 := Tryz.sizeOf113,
 v66 := Tryz.zeroValue113,
 t70 := Tryz.underlying117,
 a70 := Tryz.isAgg117,
 z70 := Tryz.sizeOf117,
 v70 := Tryz.zeroValue117,
 t76 := Tryz.underlying121,
 a76 := Tryz.isAgg121,
 z76 := Tryz.sizeOf121,
 v76 := Tryz.zeroValue121,
 t77 := Tryz.underlying122,
 a77 := Tryz.isAgg122,
 z77 := Tryz.sizeOf122,
 v77 := Tryz.zeroValue122
 }
end Go.Proofs
namespace Go.Proofs.YtkocahlifffgjaaGreat.P
open Go.RowKit Go.Proofs.YtkocahlifffgjaaGreatW.PrintWords Go.Proofs.YtkocahlifffgjaaGreatW.PrintLast Go.Proofs.YtkocahlifffgjaaGreatW.PrintMore
set_option linter.unusedVariables false
set_option linter.unusedSimpArgs false
theorem reps_ints {W : World} {base : Nat} {ok : Nat → Prop} : ∀ (zs : List Int), Reps ((Kd.int .i64).M W base ok) 1 zs (zs.map (Value.int .i64))
 | zs => ⟨zz1h, fun j x hx => by
  have h1 : (zs.map (Value.int .i64))[j]? = some (.int .i64 x) := by rw [List.getElem?_map, hx]; rfl
  rw [Nat.mul_one]; obtain ⟨h2, h3⟩ := List.getElem?_eq_some_iff.1 h1; rw [List.drop_eq_getElem_cons h2, h3]; rfl⟩
theorem ints_of {W : World} {base : Nat} {ok : Nat → Prop} {zs : List Int} {cs : List Value} (h : Reps ((Kd.int .i64).M W base ok) 1 zs cs) : cs = zs.map (Value.int .i64) := by
 obtain ⟨h1, h2⟩ := h; apply List.ext_getElem?; intro j; rw [List.getElem?_map]; cases hx : zs[j]? with
 | none =>
  have h3 := List.getElem?_eq_none_iff.1 hx; rw [List.getElem?_eq_none_iff.2 (by rw [h1, Nat.mul_one]; exact h3)]; rfl
 | some x =>
  have h3 := h2 j x hx; rw [Nat.mul_one] at h3; have h4 : (cs.drop j).take 1 = [.int .i64 x] := h3; have h5 := congrArg (fun l => l[0]?) h4; simp only [List.getElem?_take_of_lt (show 0 < 1 by decide), List.getElem?_drop, Nat.add_zero] at h5; rw [h5]; rfl
theorem R_ints {W : World} {base e : Nat} {ok : Nat → Prop} {v : Value} {zs : List Int} (h : Kd.R (Kd.int .i64) e W base ok v zs) :
 (v = .slice none 0 0 ∧ zs = []) ∨ ∃ (g cap : Nat) (cur : Array Value), v = .slice (some ⟨g, 0, none⟩) zs.length cap ∧ ok g ∧ base ≤ g ∧ W.heap[g]? = some (.cells cur e (0, 0)) ∧ zs.length ≤ cap ∧ cap ≤ maxLen ∧ cur.size = cap * 1 ∧ cur.toList.take zs.length = zs.map (Value.int .i64) := by
 obtain ⟨hok, inner, ⟨hlen, hrow⟩, hr⟩ := h; obtain rfl := ints_of hr; rcases hrow with ⟨hv, h0⟩ | ⟨g, cap, cur, hv, hbg, hh, hnc, hcm, hcs, ht⟩
 · refine .inl ⟨hv, ?_⟩; exact List.length_eq_zero_iff.1 h0
 · exact .inr ⟨g, cap, cur, hv, hok g (by rw [hv]; rfl), hbg, hh, hnc, hcm, hcs, by rw [show zs.length * (Kd.int .i64).sz = zs.length from Nat.mul_one _] at ht; exact ht⟩
theorem R_of_block {W : World} {base e g cap : Nat} {ok : Nat → Prop} {zs : List Int} {cur : Array Value} (hok : ok g) (hb : base ≤ g) (hh : W.heap[g]? = some (.cells cur e (0, 0))) (hn : zs.length ≤ cap) (hc : cap ≤ maxLen) (hs : cur.size = cap * 1) (ht : cur.toList.take zs.length = zs.map (Value.int .i64)) :
 Kd.R (Kd.int .i64) e W base ok (.slice (some ⟨g, 0, none⟩) zs.length cap) zs :=
 ⟨fun k hk => by have : g = k := by simpa [Value.ownBlock] using hk
                 rw [← this]; exact hok, zs.map (Value.int .i64), ⟨by rw [List.length_map]; exact (Nat.mul_one _).symm, .inr ⟨g, cap, cur, rfl, hb, hh, hn, hc, hs, by rw [show zs.length * (Kd.int .i64).sz = zs.length from Nat.mul_one _]; exact ht⟩⟩, reps_ints zs⟩
theorem mergeI_len (l : List Int) : (l.mergeSort fun x y => decide (x ≤ y)).length = l.length := List.length_mergeSort l
theorem below_sorted {b : Nat} {w W : World} {g n : Nat} {os : Array Obj} (d : Array Int) (h : Below b w W) (hg : b ≤ g) (hb : b ≤ W.heap.size) : Below b w (Go.Sort.grow (Go.Sort.putRow (Value.int .i64) (Go.Sort.ahead W n) g 0 d) os) := by
 have k := Go.grownBy_sortedI (w := W) (g := g) (n := n) (os := os) d; exact ⟨k.os.trans h.os, k.tape.trans h.tape, k.output.trans h.output, Nat.le_trans h.size k.size, fun i hi => (k.block i (Nat.lt_of_lt_of_le hi hb) (fun e => by injection e with e; omega)).trans (h.block i hi)⟩
theorem kept_sorted {W : World} {g n : Nat} {os : Array Obj} {P : Nat → Prop} (d : Array Int) (hg : P g) : Kept W (Go.Sort.grow (Go.Sort.putRow (Value.int .i64) (Go.Sort.ahead W n) g 0 d) os) P := by
 have k := Go.grownBy_sortedI (w := W) (g := g) (n := n) (os := os) d; exact ⟨k.size, fun i hi hn => k.block i hi (fun e => hn (by injection e with e; rw [e]; exact hg))⟩
def slices_Sort_int_int.f (l0 : List Int) : Option (List Int) := if l0.length < 4611686018427387904 then some (l0.mergeSort fun x y => decide (x ≤ y)) else none
theorem slices_Sort_int_int.calls (P0_ : Nat → Prop) (u9000_ : Value) (l0 : List Int) (r : List Int) (w0 w : World) (hB : Below w0.heap.size w0 w) (ho0 : Kd.R (Kd.int .i64) 3 w w0.heap.size P0_ u9000_ l0) (h : slices_Sort_int_int.f l0 = some r) :
 Calls Tryz.prog 75 #[u9000_] w fun e w' => e = .returned (.tuple #[]) ∧ Kd.R (Kd.int .i64) 3 w' w0.heap.size (fun k_ => (P0_ k_ ∨ w.heap.size ≤ k_)) u9000_ r ∧ Below w0.heap.size w0 w' ∧ Kept w w' (fun k_ => P0_ k_) := by
 unfold slices_Sort_int_int.f at h; by_cases hl : l0.length < 4611686018427387904
 · rw [if_pos hl] at h; obtain rfl := Option.some.inj h; rcases R_ints ho0 with ⟨rfl, rfl⟩ | ⟨g, cap, cur, rfl, hok, hbg, hh, hn, hc, hs, ht⟩
   · refine (AnyM.slices_Sort_int_none Tryz.srt none 0 w).mono fun e w' ⟨he, hw⟩ => ?_
     subst hw; exact ⟨he, by rw [List.mergeSort_nil]; exact Kd.R_nil _ _ _ _ _, hB, Kept.refl _ _⟩
   · have hg : g < w.heap.size := (Array.getElem?_eq_some_iff.1 hh).1; refine (AnyM.slices_Sort_int Tryz.srt g 0 cap l0 w (Go.holds_of_blockI hh ht) hg hl).mono fun e w' ⟨he, n, os, hw⟩ => ?_
     have hl2 := mergeI_len l0; subst hw; refine ⟨he, ?_, below_sorted _ hB hbg hB.size, kept_sorted _ hok⟩; have hh2 := Go.heap_sortedI (n := n) (os := os) (l0.mergeSort fun x y => decide (x ≤ y)).toArray hh; have R := R_of_block (cap := cap) (ok := fun k_ => (P0_ k_ ∨ w.heap.size ≤ k_)) (.inl hok) hbg hh2 (by rw [hl2]; exact hn) hc (by simp [Go.Sort.putCells, hs]) (Go.take_putCellsI cur _ (by rw [hl2]; omega)); rw [hl2] at R; exact R
 · rw [if_neg hl] at h; cases h
def slices_Compact_int_int.f (l0 : List Int) : Option (List Int) := if l0.length < 4611686018427387904 then some (Go.Lib.compactUpTo l0.toArray l0.length) else none
theorem compact_le (l : List Int) : (Go.Lib.compactUpTo l.toArray l.length).length ≤ l.length := by
 unfold Go.Lib.compactUpTo; rw [List.length_map]; exact Nat.le_trans (List.length_filter_le _ _) zz1h
theorem slices_Compact_int_int.calls (P0_ : Nat → Prop) (u9000_ : Value) (l0 : List Int) (r : List Int) (w0 w : World) (hB : Below w0.heap.size w0 w) (ho0 : Kd.R (Kd.int .i64) 3 w w0.heap.size P0_ u9000_ l0) (h : slices_Compact_int_int.f l0 = some r) :
 Calls Tryz.prog 89 #[u9000_] w fun e w' => ∃ v0_ : Value, e = .returned (v0_) ∧ Kd.R (Kd.int .i64) 3 w' w0.heap.size (fun k_ => (P0_ k_ ∨ w.heap.size ≤ k_)) v0_ r ∧ Below w0.heap.size w0 w' ∧ Kept w w' (fun k_ => P0_ k_) := by
 unfold slices_Compact_int_int.f at h; by_cases hl : l0.length < 4611686018427387904
 · rw [if_pos hl] at h; obtain rfl := Option.some.inj h; rcases R_ints ho0 with ⟨rfl, rfl⟩ | ⟨g, cap, cur, rfl, hok, hbg, hh, hn, hc, hs, ht⟩
   · go_enter Tryz.func89, Tryz.ntmps89; go_wp2; go_ret; exact ⟨_, rfl, Kd.R_nil _ _ _ _ _, hB, Kept.refl _ _⟩
   · have hg : g < w.heap.size := (Array.getElem?_eq_some_iff.1 hh).1; refine (AnyE.slices_Compact Tryz.cmpt (Value.int .i64) (fun _ => rfl) (EqlAt.intD _ _ .i64) (NeqAt.intD _ _ .i64) 0 Tryz.zeroValue3 g 0 cap l0.toArray w (Go.holds_of_blockI hh ht) (by simp; omega) (by simpa using hn)).mono fun e w' ⟨he, q, hw⟩ => ?_
     have hl2 := compact_le l0; have hsz : l0.toArray.size = l0.length := by simp
     rw [hsz] at he hw; rw [← Go.Sort.grow_empty (Go.Sort.putRow _ _ _ _ _)] at hw; subst hw; refine ⟨_, he, ?_, below_sorted _ hB hbg hB.size, kept_sorted _ hok⟩; have hh2 := Go.heap_sortedI (n := q) (os := #[]) (Go.Lib.compactUpTo l0.toArray l0.length ++ List.replicate (l0.length - (Go.Lib.compactUpTo l0.toArray l0.length).length) 0).toArray hh; refine R_of_block (cap := cap) (ok := fun k_ => (P0_ k_ ∨ w.heap.size ≤ k_)) (.inl hok) hbg hh2 zz1g hc (by simp [Go.Sort.putCells, hs]) ?_; have h3 := Go.take_putCellsI cur (Go.Lib.compactUpTo l0.toArray l0.length ++ List.replicate (l0.length - (Go.Lib.compactUpTo l0.toArray l0.length).length) 0) (by rw [List.length_append, List.length_replicate]; omega); have h4 := congrArg (fun l => l.take (Go.Lib.compactUpTo l0.toArray l0.length).length) h3; simp only [List.take_take, List.length_append] at h4; rw [Nat.min_eq_left zz1g] at h4; rw [h4, List.map_append, List.take_append_of_le_length zz1h, List.take_of_length_le zz1h]
 · rw [if_neg hl] at h; cases h
end Go.Proofs.YtkocahlifffgjaaGreat.P
namespace Go.Proofs.YtkocahlifffgjaaGreat.P
open Go.RowKit Go.Proofs.YtkocahlifffgjaaGreatW.PrintWords Go.Proofs.YtkocahlifffgjaaGreatW.PrintLast Go.Proofs.YtkocahlifffgjaaGreatW.PrintMore
attribute [local go_sem] max2_int min2_int max_two min_two max_three min_three max_four min_four
set_option linter.unusedVariables false
set_option linter.unusedSimpArgs false
def spec_l1Put.l0 : Nat → List Int → Int → Int → Option (List Int)
 | 0, _, _, _ => none
 | k + 1, x0, x1, x5 => if x5 < (x0.length : Int) then (if 0 ≤ x5 then (if (rd x0 x5) < x1 then (spec_l1Put.l0 k x0 x1 (wrap64 (x5 + 1))) else (if (rd x0 x5) = x1 then (some x0) else ((some (([] : List Int) : List Int)).bind fun il => (if x5 ≤ (x0.length : Int) then ((some (x0.take (x5 : Int).toNat : List Int)).bind fun fg => (if il.length + fg.length < 17592186044416 then ((some (il ++ fg : List Int)).bind fun gn => (if gn.length < 17592186044416 then ((some (gn ++ [x1] : List Int)).bind fun cq => ((some (x0.drop (x5 : Int).toNat : List Int)).bind fun cv => (if cq.length + cv.length < 17592186044416 then (some (cq ++ cv)) else (none)))) else (none))) else (none))) else (none))))) else (none)) else ((some (([] : List Int) : List Int)).bind fun im => (if 0 ≤ x5 then (if x5 ≤ (x0.length : Int) then ((some (x0.take (x5 : Int).toNat : List Int)).bind fun fh => (if im.length + fh.length < 17592186044416 then ((some (im ++ fh : List Int)).bind fun fO => (if fO.length < 17592186044416 then ((some (fO ++ [x1] : List Int)).bind fun dM => ((some (x0.drop (x5 : Int).toNat : List Int)).bind fun cC => (if dM.length + cC.length < 17592186044416 then (some (dM ++ cC)) else (none)))) else (none))) else (none))) else (none)) else (none)))
def spec_l1Put.f (k : Nat) (l0 : List Int) (a1 : Int) : Option (List Int) := spec_l1Put.l0 k l0 a1 0
set_option maxHeartbeats 8000000 in
set_option maxRecDepth 100000 in
theorem spec_l1Put.calls (k : Nat) (P0_ : Nat → Prop) (eJ : Value) (l0 : List Int) (a1 : Int) (r : List Int) (w0 w : World) (hB : Below w0.heap.size w0 w) (cj : Kd.R (Kd.int .i64) 3 w w0.heap.size P0_ eJ l0) (h : spec_l1Put.f k l0 a1 = some r) :
 Calls Tryz.prog 45 #[eJ, .int .i64 a1] w fun e w' => ∃ et : Value, e = .returned (et) ∧ Kd.R (Kd.int .i64) 3 w' w0.heap.size (fun k_ => (P0_ k_ ∨ w.heap.size ≤ k_)) et r ∧ Below w0.heap.size w0 w' ∧ Kept w w' (fun k_ => P0_ k_) := by
 have pq := zA (show Kd.R (Kd.int .i64) 3 w w0.heap.size (fun k_ => (P0_ k_ ∨ w.heap.size ≤ k_)) eJ l0 from Kd.R_mono cj (fun k_ hk => (.inl hk))); have HK := zA (Kept.refl w (fun k_ => P0_ k_)); have HW0 := zA hB.size; have HB := zA hB; clear hB; have H : (spec_l1Put.l0 k l0 a1 0) = some r := h; clear h; have H' := zA H; clear H; go_enter Tryz.func45, Tryz.ntmps45; go_wp2; go_loopg [5] k (fun kq v5 w' => ∃ (ao : Int), v5 = .int .i64 ao ∧ Aside0 (spec_l1Put.l0 kq l0 a1 ao = some r) ∧ Aside0 (kq ≤ k) ∧ Aside0 (Kd.R (Kd.int .i64) 3 w' w0.heap.size (fun k_ => (P0_ k_ ∨ w.heap.size ≤ k_)) eJ l0) ∧ Aside0 (Kept w w' (fun k_ => P0_ k_)) ∧ Aside0 (Below w0.heap.size w0 w'))
 case atStart => exact ⟨(0), zz0y, H', ⟨Nat.le_refl _⟩, ⟨zz0u pq⟩, ⟨zz0g HK⟩, ⟨zz0q HB⟩⟩
 case round =>
  clear H'; (try clear p2); obtain ⟨ao, rfl, HA, bJ, ba, HK, HB⟩ := hrel; cases gk with
  | zero => exact absurd HA.out (by simp [spec_l1Put.l0])
  | succ k1 =>
   have H := HA.out; clear HA; simp only [spec_l1Put.l0] at H; by_cases c3 : ao < (l0.length : Int)
   · rw [if_pos c3] at H; have cM := decide_eq_true c3; clear c3; replace H := zIn H; obtain ⟨c4, H⟩ := H; have dr : decide (0 ≤ ao) = true := decide_eq_true c4; clear c4; by_cases c5 : (rd l0 ao) < a1
     · rw [if_pos c5] at H; have ff := decide_eq_true c5; clear c5; have H' := zA H; clear H; obtain ⟨Ao6, qV, qw⟩ := Kd.R_slice ba.out; subst qw; have aN : 0 ≤ (ao : Int) := of_decide_eq_true zz1b; have aQ : ao < (l0.length : Int) := of_decide_eq_true zz1b; obtain ⟨bm, bH, be⟩ := Kd.at_int (Kd.R_reads' ba.out).2.2 ao aN aQ; cases bH; replace aN := eq_true aN; replace aQ := eq_true aQ; go_wp2
       go_roundg k1
       case measure => have := bJ.out; omega
       case rel => exact ⟨(wrap64 (ao + 1)), zz0y, H', ⟨zz18 bJ⟩, ⟨zz0u ba⟩, ⟨zz0g HK⟩, ⟨zz0q HB⟩⟩
     · rw [if_neg c5] at H; have ff := decide_eq_false c5; clear c5; by_cases c7 : (rd l0 ao) = a1
       · rw [if_pos c7] at H; have dA : ((rd l0 ao) == a1) = true := beq_iff_eq.mpr c7; have js : ((rd l0 ao) != a1) = false := bne_eq_false_iff_eq.mpr c7; clear c7; obtain rfl := Option.some.inj H; obtain ⟨Ao8, co8, eo8⟩ := Kd.R_slice ba.out; subst eo8; have aN : 0 ≤ (ao : Int) := of_decide_eq_true zz1b; have aQ : ao < (l0.length : Int) := of_decide_eq_true zz1b; obtain ⟨bm, bH, be⟩ := Kd.at_int (Kd.R_reads' ba.out).2.2 ao aN aQ; cases bH; replace aN := eq_true aN; replace aQ := eq_true aQ; have bS : 0 ≤ (ao : Int) := of_decide_eq_true zz1b; have bT : ao < (l0.length : Int) := of_decide_eq_true zz1b; obtain ⟨dB, dj, b5⟩ := Kd.at_int (Kd.R_reads' ba.out).2.2 ao bS bT; obtain rfl : bm = dB := (by injection dj)
         replace bS := eq_true bS; replace bT := eq_true bT; go_wp2; go_ret; exact ⟨_, zz0r, zz0u ba, zz0q HB, zz0g HK⟩
       · rw [if_neg c7] at H; have dA : ((rd l0 ao) == a1) = false := beq_eq_false_iff_ne.mpr c7; have js : ((rd l0 ao) != a1) = true := bne_iff_ne.mpr c7; obtain ⟨il, e_y⟩ : ∃ y_ : List Int, y_ = (([] : List Int)) := ⟨_, rfl⟩
         replace H : (if ao ≤ (l0.length : Int) then ((some (l0.take (ao : Int).toNat : List Int)).bind fun fg => (if il.length + fg.length < 17592186044416 then ((some (il ++ fg : List Int)).bind fun gn => (if gn.length < 17592186044416 then ((some (gn ++ [a1] : List Int)).bind fun cq => ((some (l0.drop (ao : Int).toNat : List Int)).bind fun cv => (if cq.length + cv.length < 17592186044416 then (some (cq ++ cv)) else (none)))) else (none))) else (none))) else (none)) = some r := zz02
         have ne := zA e_y; clear e_y; have eN := eq_true (of_decide_eq_true zz1b : 0 ≤ ao); replace H := zIn H; obtain ⟨eh, H⟩ := H; have eQ := eq_true eh; have kc : decide (ao ≤ (l0.length : Int)) = true := decide_eq_true eh; clear eh; obtain ⟨fg, e_y⟩ : ∃ y_ : List Int, y_ = (l0.take (ao : Int).toNat) := ⟨_, rfl⟩
         replace H : (if il.length + fg.length < 17592186044416 then ((some (il ++ fg : List Int)).bind fun gn => (if gn.length < 17592186044416 then ((some (gn ++ [a1] : List Int)).bind fun cq => ((some (l0.drop (ao : Int).toNat : List Int)).bind fun cv => (if cq.length + cv.length < 17592186044416 then (some (cq ++ cv)) else (none)))) else (none))) else (none)) = some r := zz02
         have iW := zA e_y; clear e_y; replace H := zIn H; obtain ⟨eF, H⟩ := H; have LMc11 := zA eF; clear eF; obtain ⟨gn, e_y⟩ : ∃ y_ : List Int, y_ = (il ++ fg) := ⟨_, rfl⟩
         replace H : (if gn.length < 17592186044416 then ((some (gn ++ [a1] : List Int)).bind fun cq => ((some (l0.drop (ao : Int).toNat : List Int)).bind fun cv => (if cq.length + cv.length < 17592186044416 then (some (cq ++ cv)) else (none)))) else (none)) = some r := zz02
         have Ny110 := zA e_y; clear e_y; replace H := zIn H; obtain ⟨eV, H⟩ := H; have lj := zA eV; clear eV; obtain ⟨cq, e_y⟩ : ∃ y_ : List Int, y_ = (gn ++ [a1]) := ⟨_, rfl⟩
         replace H : ((some (l0.drop (ao : Int).toNat : List Int)).bind fun cv => (if cq.length + cv.length < 17592186044416 then (some (cq ++ cv)) else (none))) = some r := zz02
         have lk := zA e_y; clear e_y; have kd := eq_true (of_decide_eq_true zz1b : 0 ≤ ao); have iX := eq_true (of_decide_eq_true zz1b : ao ≤ (l0.length : Int)); obtain ⟨cv, e_y⟩ : ∃ y_ : List Int, y_ = (l0.drop (ao : Int).toNat) := ⟨_, rfl⟩
         replace H : (if cq.length + cv.length < 17592186044416 then (some (cq ++ cv)) else (none)) = some r := zz02
         have h1 := zA e_y; clear e_y; replace H := zIn H; obtain ⟨jw, H⟩ := H; have LMc15 := zA jw; clear jw; obtain ⟨mC, e_y⟩ : ∃ y_ : List Int, y_ = (cq ++ cv) := ⟨_, rfl⟩
         replace H : (some mC) = some r := zz02
         have ll := zA e_y; clear e_y; obtain rfl := Option.some.inj H; obtain ⟨Ao16, gI, eo16⟩ := Kd.R_slice ba.out; subst eo16; have aN : 0 ≤ (ao : Int) := of_decide_eq_true zz1b; have aQ : ao < (l0.length : Int) := of_decide_eq_true zz1b; obtain ⟨bm, bH, be⟩ := Kd.at_int (Kd.R_reads' ba.out).2.2 ao aN aQ; cases bH; replace aN := eq_true aN; replace aQ := eq_true aQ; have bS : 0 ≤ (ao : Int) := of_decide_eq_true zz1b; have bT : ao < (l0.length : Int) := of_decide_eq_true zz1b; obtain ⟨dB, dj, b5⟩ := Kd.at_int (Kd.R_reads' ba.out).2.2 ao bS bT; obtain rfl : bm = dB := (by injection dj)
         replace bS := eq_true bS; replace bT := eq_true bT; go_wp2_with (first | ((with_reducible refine gate_dst (N := 34) rfl ?_); refine Kd.R_lit (Kd.int .i64) _ 3 ?hg (N := 34) ?hd (xs := ([] : List Int)) (inner := []) (ok := fun _ => True) (okp := fun _ => True) ?hr ?hp (fun _ hk => hk) trivial (Below.refl _ _) (Nat.le_refl _) zz1h ?_; (case hd => rfl); (case hg => rfl); (case hr => first | (go_simp; done) | (go_simp; rfl)); (case hp => exact (Reps.none _ _)); intro v104 oc gJ hb hg_ hnew_; clear hg_ hnew_; (first | rw [← ne.out] at gJ | (simp only [Int.reduceToNat] at gJ; rw [← ne.out] at gJ)); have lm := zA (Kd.R_lower (Kd.R_new' (Kd.R_newM (M := fun k_ => (P0_ k_ ∨ w.heap.size ≤ k_)) gJ zz07 (fun k_ h_ => .inr h_)) (Kd.R_lt (zz0u ba))) (zF (zz0q HB))); replace ba := zA (Kd.R_elder' (zz0u ba) (Kd.R_base gJ) hb); replace HK := zA (Kept.below (S := (fun k_ => P0_ k_)) (zz0g HK) hb); replace HB := zA (zG (zz0q HB) hb); clear hb gJ; have qy : (ao : Int) ≤ ((l0.length : Int) : Int) := of_decide_eq_true zz1b; obtain ⟨i019, nf, _, hsz19, _⟩ := info_parts info3; have hroom19 : l0.length ≤ gI := (Kd.R_reads' ba.out).2.1; have hC19 : Kd.C (Kd.int .i64) _ (some bm) l0.length l0 := (Kd.R_reads' ba.out).2.2; have hcut19 := cut_to (P := Tryz.prog) 23 3 .i64 Tryz.underlying23 nf (some bm) l0.length gI ao (of_decide_eq_true zz1b) qy hroom19; have og := Kd.C_take (m := (ao : Int).toNat) hC19 zz1g; have oh : fg.length = (ao : Int).toNat := (by rw [iW.out, List.length_take]; omega); rw [← iW.out] at og; rw [← oh] at hcut19; have iY := zA og; have HC109 := zA (show fg.length ≤ gI from by omega); clear og hC19 hroom19 nf hsz19; have KY19 := zA oh; clear oh; have KL19 := zA (show (ao : Int).toNat ≤ l0.length from by omega); replace qy := eq_true qy) | ((with_reducible refine gate_builtin (b := .append) (xs := #[.tmp 34, .tmp 37]) rfl ?_); at_builtin; refine Kd.R_append_rows (Kd.int .i64) (w0 := w0) w0.heap.size rfl (.tmp 34) (.tmp 37) 23 3 (.int .i64 0) 8 rfl Tryz.underlying23 info3 rfl zz1f zz1g v104 il fg _ _ _ (fun k_ => (P0_ k_ ∨ w.heap.size ≤ k_) ∧ some k_ ≠ (.slice (some bm) l0.length gI : Value).ownBlock) (fun _ => False) rfl rfl ?aO ?aR (fun _ _ h => h) (fun _ h => h.elim) ?aF ?aB ?aS ?aL ?_; (case aR => repeat (first | exact (zz0j iY) | refine zP ?_ _ | refine zQ ?_ _ | refine zR ?_)); (case aB => exact (zz0q HB)); (case aF => exact (fun k_ hk => ⟨(.inr (Nat.le_trans zz07 hk)), Kd.fresh' (Kd.R_lt (zz0u ba)) k_ hk⟩)); (case aO => exact (by (with_reducible repeat (first | apply zT | apply zU | apply zV)); exact Kd.R_mono lm.out (fun _ hk => ⟨hk.1.1, hk.2⟩))); (case aS => exact (zF (zz0q HB))); (case aL => have := LMc11.out; omega); intro mB pg ho hb hg hat; rw [← Ny110.out] at ho; replace HB := zA (hb); replace HK := zA (Kept.of_grown (S := (fun k_ => P0_ k_)) hg (zz0g HK) (fun k_ e_ => (lm.out.1 k_ e_).1.1)); replace iY := zA ((show Kd.C (Kd.int .i64) pg (some bm) fg.length fg from by rw [iW.out]; exact Kd.C_take (m := (ao : Int).toNat) ((Kd.R_reads' (Kd.R_after (ok := (fun k_ => (P0_ k_ ∨ w.heap.size ≤ k_))) (zz0u ba) hg hat)).2.2) KL19.out)); replace ba := zA (Kd.R_after (ok := (fun k_ => (P0_ k_ ∨ w.heap.size ≤ k_))) (zz0u ba) hg hat); have cN := zA (ho); clear lm; clear ho hb hg hat) | ((with_reducible refine gate_builtin (b := .append) (xs := #[.tmp 39, .tmp 41]) rfl ?_); at_builtin; refine Kd.R_append (Kd.int .i64) (w0 := w0) w0.heap.size rfl (.tmp 39) (.tmp 41) 23 3 (.int .i64 0) 8 rfl Tryz.underlying23 info3 rfl zz1f zz1g mB gn a1 [.int .i64 a1] (fun k_ => (P0_ k_ ∨ w.heap.size ≤ k_) ∧ some k_ ≠ (.slice (some bm) l0.length gI : Value).ownBlock) (fun _ => False) rfl rfl ?aP (fun _ hk => hk.elim) ?aF ?aO ?aB ?aS ?aL ?_; (case aP => exact rfl); (case aB => exact (zz0q HB)); (case aF => exact (fun k_ hk => ⟨(.inr (Nat.le_trans zz07 hk)), Kd.fresh' (Kd.R_lt (zz0u ba)) k_ hk⟩)); (case aO => exact (zz0u cN)); (case aS => exact (zF (zz0q HB))); (case aL => have := lj.out; omega); intro d0 w21 ho hb hg hat; rw [← lk.out] at ho; replace HB := zA (hb); replace HK := zA (Kept.of_grown (S := (fun k_ => P0_ k_)) hg (zz0g HK) (fun k_ e_ => (cN.out.1 k_ e_).1)); replace iY := zA ((show Kd.C (Kd.int .i64) w21 (some bm) fg.length fg from by rw [iW.out]; exact Kd.C_take (m := (ao : Int).toNat) ((Kd.R_reads' (Kd.R_after (ok := (fun k_ => (P0_ k_ ∨ w.heap.size ≤ k_))) (zz0u ba) hg hat)).2.2) KL19.out)); replace ba := zA (Kd.R_after (ok := (fun k_ => (P0_ k_ ∨ w.heap.size ≤ k_))) (zz0u ba) hg hat); have dh := zA (ho); clear cN; clear ho hb hg hat; have qz : (ao : Int) ≤ ((l0.length : Int) : Int) := of_decide_eq_true zz1b; obtain ⟨i022, ng, _, hsz22, _⟩ := info_parts info3; have hroom22 : l0.length ≤ gI := (Kd.R_reads' ba.out).2.1; have hC22 : Kd.C (Kd.int .i64) _ (some bm) l0.length l0 := (Kd.R_reads' ba.out).2.2; have q022 : (0 : Int) ≤ (ao : Int) := of_decide_eq_true zz1b; have hcut22 := cut_from (P := Tryz.prog) 23 3 .i64 Tryz.underlying23 ng 1 hsz22 (some bm) l0.length gI ao q022 qz; have ln := Kd.C_drop (m := (ao : Int).toNat) (c := gI) hC22 zz1g hroom22; obtain ⟨q4, hA22⟩ : ∃ A1, A1 = (if gI = (ao : Int).toNat then (some bm) else ((some bm) : Option Addr).map (·.add ((ao : Int).toNat * 1))) := ⟨_, rfl⟩; obtain ⟨hW, oi⟩ : ∃ c1, c1 = gI - (ao : Int).toNat := ⟨_, rfl⟩; have mD : cv.length = l0.length - (ao : Int).toNat := (by rw [h1.out, List.length_drop] <;> omega); rw [show (l0).drop (ao : Int).toNat = cv from h1.out.symm] at ln; replace ln : Kd.C (Kd.int .i64) _ q4 cv.length cv := (by rw [hA22]; exact ln); rw [← mD, ← hA22, ← oi] at hcut22; have lo := zA ln; have HC119 := zA (show cv.length ≤ hW from by rw [mD, oi]; exact Nat.sub_le_sub_right hroom22 _); clear ln hC22 hroom22 ng hsz22 oi; have KY22 := zA mD; have KA22 := zA hA22; clear mD hA22; have KL22 := zA (show (ao : Int).toNat ≤ l0.length from by omega); replace qz := eq_true qz) | ((with_reducible refine gate_builtin (b := .append) (xs := #[.tmp 43, .tmp 46]) rfl ?_); at_builtin; refine Kd.R_append_rows (Kd.int .i64) (w0 := w0) w0.heap.size rfl (.tmp 43) (.tmp 46) 23 3 (.int .i64 0) 8 rfl Tryz.underlying23 info3 rfl zz1f zz1g d0 cq cv _ _ _ (fun k_ => (P0_ k_ ∨ w.heap.size ≤ k_) ∧ some k_ ≠ (.slice (some bm) l0.length gI : Value).ownBlock) (fun _ => False) rfl rfl ?aO ?aR (fun _ _ h => h) (fun _ h => h.elim) ?aF ?aB ?aS ?aL ?_; (case aR => repeat (first | exact (zz0j lo) | refine zP ?_ _ | refine zQ ?_ _ | refine zR ?_)); (case aB => exact (zz0q HB)); (case aF => exact (fun k_ hk => ⟨(.inr (Nat.le_trans zz07 hk)), Kd.fresh' (Kd.R_lt (zz0u ba)) k_ hk⟩)); (case aO => exact (zz0u dh)); (case aS => exact (zF (zz0q HB))); (case aL => have := LMc15.out; omega); intro v121 ph ho hb hg hat; rw [← ll.out] at ho; replace HB := zA (hb); replace HK := zA (Kept.of_grown (S := (fun k_ => P0_ k_)) hg (zz0g HK) (fun k_ e_ => (dh.out.1 k_ e_).1)); replace iY := zA ((show Kd.C (Kd.int .i64) ph (some bm) fg.length fg from by rw [iW.out]; exact Kd.C_take (m := (ao : Int).toNat) ((Kd.R_reads' (Kd.R_after (ok := (fun k_ => (P0_ k_ ∨ w.heap.size ≤ k_))) (zz0u ba) hg hat)).2.2) KL19.out)); replace lo := zA ((show Kd.C (Kd.int .i64) ph q4 cv.length cv from by rw [h1.out, KA22.out]; exact Kd.C_drop (m := (ao : Int).toNat) (c := gI) ((Kd.R_reads' (Kd.R_after (ok := (fun k_ => (P0_ k_ ∨ w.heap.size ≤ k_))) (zz0u ba) hg hat)).2.2) KL22.out ((Kd.R_reads' (Kd.R_after (ok := (fun k_ => (P0_ k_ ∨ w.heap.size ≤ k_))) (zz0u ba) hg hat)).2.1))); replace ba := zA (Kd.R_after (ok := (fun k_ => (P0_ k_ ∨ w.heap.size ≤ k_))) (zz0u ba) hg hat); have lp := zA (ho); clear dh; clear ho hb hg hat)); go_ret; exact ⟨_, zz0r, zz0k lp, zz0q HB, zz0g HK⟩
   · rw [if_neg c3] at H; have cM := decide_eq_false c3; clear c3; obtain ⟨im, e_y⟩ : ∃ y_ : List Int, y_ = (([] : List Int)) := ⟨_, rfl⟩
     replace H : (if 0 ≤ ao then (if ao ≤ (l0.length : Int) then ((some (l0.take (ao : Int).toNat : List Int)).bind fun fh => (if im.length + fh.length < 17592186044416 then ((some (im ++ fh : List Int)).bind fun fO => (if fO.length < 17592186044416 then ((some (fO ++ [a1] : List Int)).bind fun dM => ((some (l0.drop (ao : Int).toNat : List Int)).bind fun cC => (if dM.length + cC.length < 17592186044416 then (some (dM ++ cC)) else (none)))) else (none))) else (none))) else (none)) else (none)) = some r := zz02
     have nh := zA e_y; clear e_y; replace H := zIn H; obtain ⟨io, H⟩ := H; have h6 := eq_true io; have ni : decide (0 ≤ ao) = true := decide_eq_true io; clear io; replace H := zIn H; obtain ⟨iZ, H⟩ := H; have i0 := eq_true iZ; have nj : decide (ao ≤ (l0.length : Int)) = true := decide_eq_true iZ; clear iZ; obtain ⟨fh, e_y⟩ : ∃ y_ : List Int, y_ = (l0.take (ao : Int).toNat) := ⟨_, rfl⟩
     replace H : (if im.length + fh.length < 17592186044416 then ((some (im ++ fh : List Int)).bind fun fO => (if fO.length < 17592186044416 then ((some (fO ++ [a1] : List Int)).bind fun dM => ((some (l0.drop (ao : Int).toNat : List Int)).bind fun cC => (if dM.length + cC.length < 17592186044416 then (some (dM ++ cC)) else (none)))) else (none))) else (none)) = some r := zz02
     have i1 := zA e_y; clear e_y; replace H := zIn H; obtain ⟨ld, H⟩ := H; have LMc26 := zA ld; clear ld; obtain ⟨fO, e_y⟩ : ∃ y_ : List Int, y_ = (im ++ fh) := ⟨_, rfl⟩
     replace H : (if fO.length < 17592186044416 then ((some (fO ++ [a1] : List Int)).bind fun dM => ((some (l0.drop (ao : Int).toNat : List Int)).bind fun cC => (if dM.length + cC.length < 17592186044416 then (some (dM ++ cC)) else (none)))) else (none)) = some r := zz02
     have lq := zA e_y; clear e_y; replace H := zIn H; obtain ⟨gp, H⟩ := H; have LMc27 := zA gp; clear gp; obtain ⟨dM, e_y⟩ : ∃ y_ : List Int, y_ = (fO ++ [a1]) := ⟨_, rfl⟩
     replace H : ((some (l0.drop (ao : Int).toNat : List Int)).bind fun cC => (if dM.length + cC.length < 17592186044416 then (some (dM ++ cC)) else (none))) = some r := zz02
     have ke := zA e_y; clear e_y; have i2 := eq_true (of_decide_eq_true zz1b : 0 ≤ ao); have c29b0 := eq_true (of_decide_eq_true zz1b : ao ≤ (l0.length : Int)); obtain ⟨cC, e_y⟩ : ∃ y_ : List Int, y_ = (l0.drop (ao : Int).toNat) := ⟨_, rfl⟩
     replace H : (if dM.length + cC.length < 17592186044416 then (some (dM ++ cC)) else (none)) = some r := zz02
     have h7 := zA e_y; clear e_y; replace H := zIn H; obtain ⟨i3, H⟩ := H; have LMc30 := zA i3; clear i3; obtain ⟨y140, e_y⟩ : ∃ y_ : List Int, y_ = (dM ++ cC) := ⟨_, rfl⟩
     replace H : (some y140) = some r := zz02
     have Ny140 := zA e_y; clear e_y; obtain rfl := Option.some.inj H; obtain ⟨gK, gL, eo31⟩ := Kd.R_slice ba.out; subst eo31; go_wp2_with (first | ((with_reducible refine gate_dst (N := 34) rfl ?_); refine Kd.R_lit (Kd.int .i64) _ 3 ?hg (N := 34) ?hd (xs := ([] : List Int)) (inner := []) (ok := fun _ => True) (okp := fun _ => True) ?hr ?hp (fun _ hk => hk) trivial (Below.refl _ _) (Nat.le_refl _) zz1h ?_; (case hd => rfl); (case hg => rfl); (case hr => first | (go_simp; done) | (go_simp; rfl)); (case hp => exact (Reps.none _ _)); intro v124 ql kS hb hg_ hnew_; clear hg_ hnew_; (first | rw [← nh.out] at kS | (simp only [Int.reduceToNat] at kS; rw [← nh.out] at kS)); have lr := zA (Kd.R_lower (Kd.R_new' (Kd.R_newM (M := fun k_ => (P0_ k_ ∨ w.heap.size ≤ k_)) kS zz07 (fun k_ h_ => .inr h_)) (Kd.R_lt (zz0u ba))) (zF (zz0q HB))); replace ba := zA (Kd.R_elder' (zz0u ba) (Kd.R_base kS) hb); replace HK := zA (Kept.below (S := (fun k_ => P0_ k_)) (zz0g HK) hb); replace HB := zA (zG (zz0q HB) hb); clear hb kS; have qA : (ao : Int) ≤ ((l0.length : Int) : Int) := of_decide_eq_true zz1b; obtain ⟨i034, nk, _, hsz34, _⟩ := info_parts info3; have hroom34 : l0.length ≤ gL := (Kd.R_reads' ba.out).2.1; have hC34 : Kd.C (Kd.int .i64) _ gK l0.length l0 := (Kd.R_reads' ba.out).2.2; have hcut34 := cut_to (P := Tryz.prog) 23 3 .i64 Tryz.underlying23 nk gK l0.length gL ao (of_decide_eq_true zz1b) qA hroom34; have oj := Kd.C_take (m := (ao : Int).toNat) hC34 zz1g; have ol : fh.length = (ao : Int).toNat := (by rw [i1.out, List.length_take]; omega); rw [← i1.out] at oj; rw [← ol] at hcut34; have i4 := zA oj; have HC129 := zA (show fh.length ≤ gL from by omega); clear oj hC34 hroom34 nk hsz34; have KY34 := zA ol; clear ol; have KL34 := zA (show (ao : Int).toNat ≤ l0.length from by omega); replace qA := eq_true qA) | ((with_reducible refine gate_builtin (b := .append) (xs := #[.tmp 34, .tmp 37]) rfl ?_); at_builtin; refine Kd.R_append_rows (Kd.int .i64) (w0 := w0) w0.heap.size rfl (.tmp 34) (.tmp 37) 23 3 (.int .i64 0) 8 rfl Tryz.underlying23 info3 rfl zz1f zz1g v124 im fh _ _ _ (fun k_ => (P0_ k_ ∨ w.heap.size ≤ k_) ∧ some k_ ≠ (.slice gK l0.length gL : Value).ownBlock) (fun _ => False) rfl rfl ?aO ?aR (fun _ _ h => h) (fun _ h => h.elim) ?aF ?aB ?aS ?aL ?_; (case aR => repeat (first | exact (zz0j i4) | refine zP ?_ _ | refine zQ ?_ _ | refine zR ?_)); (case aB => exact (zz0q HB)); (case aF => exact (fun k_ hk => ⟨(.inr (Nat.le_trans zz07 hk)), Kd.fresh' (Kd.R_lt (zz0u ba)) k_ hk⟩)); (case aO => exact (by (with_reducible repeat (first | apply zT | apply zU | apply zV)); exact Kd.R_mono lr.out (fun _ hk => ⟨hk.1.1, hk.2⟩))); (case aS => exact (zF (zz0q HB))); (case aL => have := LMc26.out; omega); intro px qm ho hb hg hat; rw [← lq.out] at ho; replace HB := zA (hb); replace HK := zA (Kept.of_grown (S := (fun k_ => P0_ k_)) hg (zz0g HK) (fun k_ e_ => (lr.out.1 k_ e_).1.1)); replace i4 := zA ((show Kd.C (Kd.int .i64) qm gK fh.length fh from by rw [i1.out]; exact Kd.C_take (m := (ao : Int).toNat) ((Kd.R_reads' (Kd.R_after (ok := (fun k_ => (P0_ k_ ∨ w.heap.size ≤ k_))) (zz0u ba) hg hat)).2.2) KL34.out)); replace ba := zA (Kd.R_after (ok := (fun k_ => (P0_ k_ ∨ w.heap.size ≤ k_))) (zz0u ba) hg hat); have i5 := zA (ho); clear lr; clear ho hb hg hat) | ((with_reducible refine gate_builtin (b := .append) (xs := #[.tmp 39, .tmp 41]) rfl ?_); at_builtin; refine Kd.R_append (Kd.int .i64) (w0 := w0) w0.heap.size rfl (.tmp 39) (.tmp 41) 23 3 (.int .i64 0) 8 rfl Tryz.underlying23 info3 rfl zz1f zz1g px fO a1 [.int .i64 a1] (fun k_ => (P0_ k_ ∨ w.heap.size ≤ k_) ∧ some k_ ≠ (.slice gK l0.length gL : Value).ownBlock) (fun _ => False) rfl rfl ?aP (fun _ hk => hk.elim) ?aF ?aO ?aB ?aS ?aL ?_; (case aP => exact rfl); (case aB => exact (zz0q HB)); (case aF => exact (fun k_ hk => ⟨(.inr (Nat.le_trans zz07 hk)), Kd.fresh' (Kd.R_lt (zz0u ba)) k_ hk⟩)); (case aO => exact (zz0u i5)); (case aS => exact (zF (zz0q HB))); (case aL => have := LMc27.out; omega); intro ls py ho hb hg hat; rw [← ke.out] at ho; replace HB := zA (hb); replace HK := zA (Kept.of_grown (S := (fun k_ => P0_ k_)) hg (zz0g HK) (fun k_ e_ => (i5.out.1 k_ e_).1)); replace i4 := zA ((show Kd.C (Kd.int .i64) py gK fh.length fh from by rw [i1.out]; exact Kd.C_take (m := (ao : Int).toNat) ((Kd.R_reads' (Kd.R_after (ok := (fun k_ => (P0_ k_ ∨ w.heap.size ≤ k_))) (zz0u ba) hg hat)).2.2) KL34.out)); replace ba := zA (Kd.R_after (ok := (fun k_ => (P0_ k_ ∨ w.heap.size ≤ k_))) (zz0u ba) hg hat); have h8 := zA (ho); clear i5; clear ho hb hg hat; have qB : (ao : Int) ≤ ((l0.length : Int) : Int) := of_decide_eq_true zz1b; obtain ⟨i037, nl, _, hsz37, _⟩ := info_parts info3; have hroom37 : l0.length ≤ gL := (Kd.R_reads' ba.out).2.1; have hC37 : Kd.C (Kd.int .i64) _ gK l0.length l0 := (Kd.R_reads' ba.out).2.2; have q037 : (0 : Int) ≤ (ao : Int) := of_decide_eq_true zz1b; have hcut37 := cut_from (P := Tryz.prog) 23 3 .i64 Tryz.underlying23 nl 1 hsz37 gK l0.length gL ao q037 qB; have lt := Kd.C_drop (m := (ao : Int).toNat) (c := gL) hC37 zz1g hroom37; obtain ⟨qn, hA37⟩ : ∃ A1, A1 = (if gL = (ao : Int).toNat then gK else (gK : Option Addr).map (·.add ((ao : Int).toNat * 1))) := ⟨_, rfl⟩; obtain ⟨jr, om⟩ : ∃ c1, c1 = gL - (ao : Int).toNat := ⟨_, rfl⟩; have mE : cC.length = l0.length - (ao : Int).toNat := (by rw [h7.out, List.length_drop] <;> omega); rw [show (l0).drop (ao : Int).toNat = cC from h7.out.symm] at lt; replace lt : Kd.C (Kd.int .i64) _ qn cC.length cC := (by rw [hA37]; exact lt); rw [← mE, ← hA37, ← om] at hcut37; have lu := zA lt; have HC139 := zA (show cC.length ≤ jr from by rw [mE, om]; exact Nat.sub_le_sub_right hroom37 _); clear lt hC37 hroom37 nl hsz37 om; have KY37 := zA mE; have KA37 := zA hA37; clear mE hA37; have KL37 := zA (show (ao : Int).toNat ≤ l0.length from by omega); replace qB := eq_true qB) | ((with_reducible refine gate_builtin (b := .append) (xs := #[.tmp 43, .tmp 46]) rfl ?_); at_builtin; refine Kd.R_append_rows (Kd.int .i64) (w0 := w0) w0.heap.size rfl (.tmp 43) (.tmp 46) 23 3 (.int .i64 0) 8 rfl Tryz.underlying23 info3 rfl zz1f zz1g ls dM cC _ _ _ (fun k_ => (P0_ k_ ∨ w.heap.size ≤ k_) ∧ some k_ ≠ (.slice gK l0.length gL : Value).ownBlock) (fun _ => False) rfl rfl ?aO ?aR (fun _ _ h => h) (fun _ h => h.elim) ?aF ?aB ?aS ?aL ?_; (case aR => repeat (first | exact (zz0j lu) | refine zP ?_ _ | refine zQ ?_ _ | refine zR ?_)); (case aB => exact (zz0q HB)); (case aF => exact (fun k_ hk => ⟨(.inr (Nat.le_trans zz07 hk)), Kd.fresh' (Kd.R_lt (zz0u ba)) k_ hk⟩)); (case aO => exact (zz0u h8)); (case aS => exact (zF (zz0q HB))); (case aL => have := LMc30.out; omega); intro v141 on ho hb hg hat; rw [← Ny140.out] at ho; replace HB := zA (hb); replace HK := zA (Kept.of_grown (S := (fun k_ => P0_ k_)) hg (zz0g HK) (fun k_ e_ => (h8.out.1 k_ e_).1)); replace i4 := zA ((show Kd.C (Kd.int .i64) on gK fh.length fh from by rw [i1.out]; exact Kd.C_take (m := (ao : Int).toNat) ((Kd.R_reads' (Kd.R_after (ok := (fun k_ => (P0_ k_ ∨ w.heap.size ≤ k_))) (zz0u ba) hg hat)).2.2) KL34.out)); replace lu := zA ((show Kd.C (Kd.int .i64) on qn cC.length cC from by rw [h7.out, KA37.out]; exact Kd.C_drop (m := (ao : Int).toNat) (c := gL) ((Kd.R_reads' (Kd.R_after (ok := (fun k_ => (P0_ k_ ∨ w.heap.size ≤ k_))) (zz0u ba) hg hat)).2.2) KL37.out ((Kd.R_reads' (Kd.R_after (ok := (fun k_ => (P0_ k_ ∨ w.heap.size ≤ k_))) (zz0u ba) hg hat)).2.1))); replace ba := zA (Kd.R_after (ok := (fun k_ => (P0_ k_ ∨ w.heap.size ≤ k_))) (zz0u ba) hg hat); have HO142 := zA (ho); clear h8; clear ho hb hg hat)); go_ret; exact ⟨_, zz0r, zz0k HO142, zz0q HB, zz0g HK⟩
def spec_l1Has.l0 : Nat → Int → List Int → Int → Int → Option (Bool)
 | 0, _, _, _, _ => none
 | k + 1, x1, x7, x8, x9 => if x9 < x8 then (if 0 ≤ x9 then (if x9 < (x7.length : Int) then (if (rd x7 x9) = x1 then (some true) else (spec_l1Has.l0 k x1 x7 x8 (wrap64 (x9 + 1)))) else (none)) else (none)) else (some false)
def spec_l1Has.f (k : Nat) (l0 : List Int) (a1 : Int) : Option (Bool) := spec_l1Has.l0 k a1 l0 (l0.length : Int) 0
set_option maxHeartbeats 8000000 in
set_option maxRecDepth 100000 in
theorem spec_l1Has.calls (k : Nat) (A0 : Option Addr) (c0 : Nat) (l0 : List Int) (a1 : Int) (r : Bool) (w : World) (dy : Kd.C (Kd.int .i64) w A0 l0.length l0) (dz : l0.length ≤ c0) (h : spec_l1Has.f k l0 a1 = some r) :
 Calls Tryz.prog 65 #[.slice A0 l0.length c0, .int .i64 a1] w fun e w' => e = .returned (.bool r) ∧ Drawn0 w w' := by
 have dq := zA dy; have hZ := zA dz; clear dy dz; have H : (spec_l1Has.l0 k a1 l0 (l0.length : Int) 0) = some r := h; clear h; have H' := zA H; clear H; go_enter Tryz.func65, Tryz.ntmps65; go_wp2; go_loopg [9] k (fun kq v9 w' => ∃ (b6 : Int), v9 = .int .i64 b6 ∧ Aside0 (spec_l1Has.l0 kq a1 l0 (l0.length : Int) b6 = some r) ∧ Aside0 (kq ≤ k) ∧ Drawn0 w w')
 case atStart => exact ⟨(0), zz0y, H', ⟨Nat.le_refl _⟩, zz0w⟩
 case round =>
  clear H'; (try clear p2); obtain ⟨b6, rfl, HA, bJ, ⟨m1, rfl⟩⟩ := hrel; cases gk with
  | zero => exact absurd HA.out (by simp [spec_l1Has.l0])
  | succ k1 =>
   have H := HA.out; clear HA; simp only [spec_l1Has.l0] at H; by_cases c3 : b6 < (l0.length : Int)
   · rw [if_pos c3] at H; have cM := decide_eq_true c3; clear c3; replace H := zIn H; obtain ⟨c4, H⟩ := H; have dr : decide (0 ≤ b6) = true := decide_eq_true c4; clear c4; replace H := zIn H; obtain ⟨c5, H⟩ := H; have ff : decide (b6 < (l0.length : Int)) = true := decide_eq_true c5; clear c5; by_cases c6 : (rd l0 b6) = a1
     · rw [if_pos c6] at H; have dt : ((rd l0 b6) == a1) = true := beq_iff_eq.mpr c6; have hf : ((rd l0 b6) != a1) = false := bne_eq_false_iff_eq.mpr c6; clear c6; obtain rfl := Option.some.inj H; have aN : 0 ≤ (b6 : Int) := of_decide_eq_true zz1b; have aQ : b6 < (l0.length : Int) := of_decide_eq_true zz1b; obtain ⟨bm, bH, be⟩ := Kd.at_int dq.out b6 aN aQ; cases bH; replace aN := eq_true aN; replace aQ := eq_true aQ; go_wp2; go_ret; exact ⟨zz0y, zz0w⟩
     · rw [if_neg c6] at H; have dt : ((rd l0 b6) == a1) = false := beq_eq_false_iff_ne.mpr c6; have hf : ((rd l0 b6) != a1) = true := bne_iff_ne.mpr c6; have H' := zA H; clear H; have aN : 0 ≤ (b6 : Int) := of_decide_eq_true zz1b; have aQ : b6 < (l0.length : Int) := of_decide_eq_true zz1b; obtain ⟨bm, bH, be⟩ := Kd.at_int dq.out b6 aN aQ; cases bH; replace aN := eq_true aN; replace aQ := eq_true aQ; go_wp2
       go_roundg k1
       case measure => have := bJ.out; omega
       case rel => exact ⟨(wrap64 (b6 + 1)), zz0y, H', ⟨zz18 bJ⟩, zz0w⟩
   · rw [if_neg c3] at H; have cM := decide_eq_false c3; clear c3; obtain rfl := Option.some.inj H; go_wp2; go_ret; exact ⟨zz0y, zz0w⟩
def spec_l1Own.f (l0 : List Int) : Option (List Int) := (some (([] : List Int) : List Int)).bind fun du => (if du.length + l0.length < 17592186044416 then (some (du ++ l0)) else (none))
set_option maxHeartbeats 8000000 in
set_option maxRecDepth 100000 in
theorem spec_l1Own.calls (A0 : Option Addr) (c0 : Nat) (l0 : List Int) (r : List Int) (w : World) (dy : Kd.C (Kd.int .i64) w A0 l0.length l0) (dz : l0.length ≤ c0) (h : spec_l1Own.f l0 = some r) :
 Calls Tryz.prog 66 #[.slice A0 l0.length c0] w fun e w' => ∃ et : Value, e = .returned (et) ∧ Kd.R (Kd.int .i64) 3 w' w.heap.size (fun _ => True) et r ∧ Below w.heap.size w w' := by
 have dq := zA dy; have hZ := zA dz; clear dy dz; have HB := zA (Below.refl w.heap.size w); have H : ((some (([] : List Int) : List Int)).bind fun du => (if du.length + l0.length < 17592186044416 then (some (du ++ l0)) else (none))) = some r := h; clear h; obtain ⟨du, e_y⟩ : ∃ y_ : List Int, y_ = (([] : List Int)) := ⟨_, rfl⟩
 replace H : (if du.length + l0.length < 17592186044416 then (some (du ++ l0)) else (none)) = some r := zz02
 have eM := zA e_y; clear e_y; replace H := zIn H; obtain ⟨c2, H⟩ := H; have LMc2 := zA c2; clear c2; obtain ⟨fP, e_y⟩ : ∃ y_ : List Int, y_ = (du ++ l0) := ⟨_, rfl⟩
 replace H : (some fP) = some r := zz02
 have lv := zA e_y; clear e_y; obtain rfl := Option.some.inj H; go_enter Tryz.func66, Tryz.ntmps66; go_wp2_with (first | ((with_reducible refine gate_dst (N := 3) rfl ?_); refine Kd.R_lit (Kd.int .i64) _ 3 ?hg (N := 3) ?hd (xs := ([] : List Int)) (inner := []) (ok := fun _ => True) (okp := fun _ => True) ?hr ?hp (fun _ hk => hk) trivial (Below.refl _ _) (Nat.le_refl _) zz1h ?_; (case hd => rfl); (case hg => rfl); (case hr => first | (go_simp; done) | (go_simp; rfl)); (case hp => exact (Reps.none _ _)); intro iT w3 pz hb hg_ hnew_; clear hg_ hnew_; (first | rw [← eM.out] at pz | (simp only [Int.reduceToNat] at pz; rw [← eM.out] at pz)); have fr := zA (Kd.R_lower pz (zF (zz0q HB))); replace HB := zA (zG (zz0q HB) hb); clear hb pz) | ((with_reducible refine gate_builtin (b := .append) (xs := #[.tmp 3, .tmp 4]) rfl ?_); at_builtin; refine Kd.R_append_rows (Kd.int .i64) (w0 := w) w.heap.size rfl (.tmp 3) (.tmp 4) 23 3 (.int .i64 0) 8 rfl Tryz.underlying23 info3 rfl zz1f zz1g iT du l0 _ _ _ (fun _ => True) (fun _ => False) rfl rfl ?aO ?aR (fun _ _ h => h) (fun _ h => h.elim) ?aF ?aB ?aS ?aL ?_; (case aR => exact (zz0t dq HB)); (case aB => exact (zz0q HB)); (case aF => exact (fun _ _ => trivial)); (case aO => exact (zz0u fr)); (case aS => exact (zF (zz0q HB))); (case aL => have := LMc2.out; omega); intro li w5 ho hb hg hat; rw [← lv.out] at ho; replace HB := zA (hb); have da := zA (ho); clear fr; clear ho hb hg hat)); go_ret; exact ⟨_, zz0r, zz0u da, zz0q HB⟩
end Go.Proofs.YtkocahlifffgjaaGreat.P
namespace Go.Proofs.YtkocahlifffgjaaGreat.P
open Go.RowKit Go.Proofs.YtkocahlifffgjaaGreatW.PrintWords
set_option linter.unusedVariables false
set_option linter.unusedSimpArgs false
theorem wsuccL {i n : Nat} (h : i < n) (hn : n ≤ 9223372036854775807) : wrap64 ((i : Int) + 1) = ((i + 1 : Nat) : Int) := by unfold wrap64; omega
theorem putI_split (a b : List Int) (n : Int) (h : ∀ x, x ∈ a → x < n) : putI (a ++ b) n = a ++ putI b n := by
 induction a with
 | nil => rfl
 | cons x a ih =>
  have h1 := h x List.mem_cons_self; show (if x < n then x :: putI (a ++ b) n else _) = _; rw [if_pos h1, ih fun y hy => h y (List.mem_cons_of_mem _ hy)]; rfl
theorem mem_take_rd {l : List Int} {i : Nat} {x : Int} (h : x ∈ l.take i) : ∃ j : Nat, j < i ∧ j < l.length ∧ rd l j = x := by
 obtain ⟨j, hj, rfl⟩ := List.getElem_of_mem h; rw [List.length_take] at hj; refine ⟨j, zz1g, zz1g, ?_⟩; unfold rd; rw [List.getElem_take, Int.toNat_natCast, List.getD_eq_getElem?_getD, List.getElem?_eq_getElem zz1g]; rfl
theorem put_loop (l : List Int) (n : Int) (hl : l.length < 17592186044415) (d : Nat) : ∀ (k i : Nat), i ≤ l.length → l.length - i = d → d < k → (∀ j : Nat, j < i → rd l j < n) → spec_l1Put.l0 k l n i = some (putI l n) := by
 have hb : l.length ≤ 9223372036854775807 := by omega
 induction d with
 | zero =>
  intro k i h1 hd hk hp; obtain ⟨k, rfl⟩ : ∃ m, k = m + 1 := ⟨k - 1, zz1g⟩
  have hi : i = l.length := by omega
  subst hi; have e : putI l n = l ++ [n] := by
   have := putI_split l [] n (fun x hx => by
    obtain ⟨j, hj1, hj2, rfl⟩ := mem_take_rd (i := l.length) (by rw [List.take_length]; exact hx); exact hp j hj2)
   rw [List.append_nil] at this; exact this
  simp only [spec_l1Put.l0]; rw [if_neg zz1g]; simp only [Option.bind_some]; rw [if_pos zz1g, if_pos zz1g, Int.toNat_natCast, List.take_length, List.drop_length]; simp only [List.length_nil, List.nil_append, List.length_append, List.length_cons, List.append_nil]; rw [if_pos zz1g, if_pos zz1g, if_pos zz1g, e]
 | succ d ih =>
  intro k i h1 hd hk hp; obtain ⟨k, rfl⟩ : ∃ m, k = m + 1 := ⟨k - 1, zz1g⟩
  have hil : i < l.length := by omega
  have ed : l.drop i = rd l i :: l.drop (i + 1) := getD_drop l i 0 hil; have es : putI l n = l.take i ++ putI (l.drop i) n := by
   rw [← putI_split _ _ _ (fun x hx => by
    obtain ⟨j, hj1, hj2, rfl⟩ := mem_take_rd hx; exact hp j hj1), List.take_append_drop]
  simp only [spec_l1Put.l0]; rw [if_pos zz1g, if_pos zz1g]; by_cases c1 : rd l i < n
  · rw [if_pos c1, wsuccL hil hb]; exact ih k (i + 1) zz1g zz1g zz1g fun j hj => by
     by_cases e : j = i
     · rw [e]; exact c1
     · exact hp j zz1g
  · rw [if_neg c1]; by_cases c2 : rd l i = n
    · rw [if_pos c2, es, ed]; show some l = some (l.take i ++ (if rd l i < n then _ else if rd l i = n then rd l i :: l.drop (i + 1) else _)); rw [if_neg c1, if_pos c2, ← ed, List.take_append_drop]
    · rw [if_neg c2]; simp only [Option.bind_some]; rw [if_pos zz1g, Int.toNat_natCast]; have h3 : (l.take i).length = i := by rw [List.length_take]; omega
      have h4 : (l.drop i).length = l.length - i := List.length_drop; simp only [List.length_nil, List.nil_append, List.length_append, List.length_cons, h3, h4]; rw [if_pos zz1g, if_pos zz1g, if_pos zz1g, es, ed]; show _ = some (l.take i ++ (if rd l i < n then _ else if rd l i = n then _ else n :: rd l i :: l.drop (i + 1))); rw [if_neg c1, if_neg c2, List.append_assoc]; rfl
theorem put_eq (l : List Int) (n : Int) (hl : l.length < 17592186044415) (k : Nat) (hk : l.length < k) : spec_l1Put.f k l n = some (putI l n) := by
 unfold spec_l1Put.f; exact put_loop l n hl l.length k 0 zz1g zz1g hk (fun j hj => by omega)
theorem has_loop (l : List Int) (n : Int) (hb : l.length ≤ 9223372036854775807) (d : Nat) : ∀ (k i : Nat), i ≤ l.length → l.length - i = d → d < k → spec_l1Has.l0 k n l l.length i = some (decide (n ∈ l.drop i)) := by
 induction d with
 | zero =>
  intro k i h1 hd hk; obtain ⟨k, rfl⟩ : ∃ m, k = m + 1 := ⟨k - 1, zz1g⟩
  simp only [spec_l1Has.l0]; rw [if_neg zz1g, List.drop_of_length_le zz1g]; simp
 | succ d ih =>
  intro k i h1 hd hk; obtain ⟨k, rfl⟩ : ∃ m, k = m + 1 := ⟨k - 1, zz1g⟩
  have hil : i < l.length := by omega
  have ed : l.drop i = rd l i :: l.drop (i + 1) := getD_drop l i 0 hil; simp only [spec_l1Has.l0]; rw [if_pos zz1g, if_pos zz1g, if_pos zz1g, ed]; by_cases c : rd l i = n
  · rw [if_pos c, decide_eq_true (by rw [c]; exact List.mem_cons_self)]
  · rw [if_neg c, wsuccL hil hb, ih k (i + 1) zz1g zz1g zz1g]; congr 1; rw [Bool.eq_iff_iff, decide_eq_true_eq, decide_eq_true_eq, List.mem_cons]; exact ⟨.inr, fun h => h.elim (fun h => absurd h.symm c) id⟩
theorem has_eq (l : List Int) (n : Int) (hb : l.length ≤ 9223372036854775807) (k : Nat) (hk : l.length < k) : spec_l1Has.f k l n = some (decide (n ∈ l)) := by
 unfold spec_l1Has.f; have := has_loop l n hb l.length k 0 zz1g zz1g hk; rw [show ((0 : Nat) : Int) = 0 from rfl, List.drop_zero] at this; exact this
theorem own_eq (l : List Int) (hl : l.length < 17592186044416) : spec_l1Own.f l = some l := by
 unfold spec_l1Own.f; simp only [Option.bind_some, List.length_nil, List.nil_append]; rw [if_pos zz1g]
theorem compact_up (s : List Int) (hs : s.Pairwise (· ≤ ·)) : ∀ m, m ≤ s.length → UpI (Go.Lib.compactUpTo s.toArray m) ∧ (∀ x, x ∈ Go.Lib.compactUpTo s.toArray m ↔ ∃ j : Nat, j < m ∧ rd s j = x) := by
 have hget : ∀ j, j < s.length → s.toArray[j]! = rd s j := fun j hj => by
  unfold rd; rw [Int.toNat_natCast, List.getD_eq_getElem?_getD, List.getElem?_eq_getElem hj, getElem!_pos s.toArray j (by simpa using hj)]; simp
 have hle : ∀ i j : Nat, i < j → j < s.length → rd s i ≤ rd s j := fun i j hij hj => by
  have := List.pairwise_iff_getElem.1 hs i j zz1g hj hij; unfold rd; rw [Int.toNat_natCast, Int.toNat_natCast, List.getD_eq_getElem?_getD, List.getD_eq_getElem?_getD, List.getElem?_eq_getElem hj, List.getElem?_eq_getElem (show i < s.length by omega)]; exact this
 intro m
 induction m with
 | zero => intro _; exact ⟨List.Pairwise.nil, fun x => ⟨(fun h => by cases h), (fun ⟨j, hj, _⟩ => by omega)⟩⟩
 | succ m ih =>
  intro hm; obtain ⟨h1, h2⟩ := ih zz1g; rw [Go.Lib.compactUpTo_succ]; cases hk : Go.Lib.keeps s.toArray m with
  | true =>
   rw [if_pos rfl, hget m zz1g]; have hlt : ∀ x, x ∈ Go.Lib.compactUpTo s.toArray m → x < rd s m := fun x hx => by
    obtain ⟨j, hj, rfl⟩ := (h2 x).1 hx; unfold Go.Lib.keeps at hk; rcases of_decide_eq_true hk with h | h
    · omega
    · rw [hget m zz1g, hget (m - 1) zz1g] at h; have a1 := hle (m - 1) m zz1g zz1g; have a2 : rd s j ≤ rd s ((m - 1 : Nat) : Int) := by
       by_cases e : j = m - 1
       · rw [e]; omega
       · exact hle j (m - 1) zz1g zz1g
      omega
   refine ⟨List.pairwise_append.2 ⟨h1, List.pairwise_singleton _ _, fun a ha b hb => by rw [List.mem_singleton.1 hb]; exact hlt a ha⟩, fun x => ?_⟩; rw [List.mem_append, h2, List.mem_singleton]; exact ⟨fun h => h.elim (fun ⟨j, hj, e⟩ => ⟨j, zz1g, e⟩) (fun e => ⟨m, zz1g, e.symm⟩), fun ⟨j, hj, e⟩ => by
    by_cases c : j = m
    · subst c; exact .inr e.symm
    · exact .inl ⟨j, zz1g, e⟩⟩
  | false =>
   rw [if_neg zz1f, List.append_nil]; refine ⟨h1, fun x => ?_⟩; rw [h2]; unfold Go.Lib.keeps at hk; have hn := of_decide_eq_false hk; have hm0 : m ≠ 0 := fun e => hn (.inl e)
   have he : s.toArray[m]! = s.toArray[m - 1]! := by
    by_cases c : s.toArray[m]! = s.toArray[m - 1]!
    · exact c
    · exact absurd (.inr c) hn
   rw [hget m zz1g, hget (m - 1) zz1g] at he; exact ⟨fun ⟨j, hj, e⟩ => ⟨j, zz1g, e⟩, fun ⟨j, hj, e⟩ => by
    by_cases c : j = m
    · subst c; exact ⟨j - 1, zz1g, by rw [← e, he]⟩
    · exact ⟨j, zz1g, e⟩⟩
theorem compact_sort (l : List Int) : Go.Lib.compactUpTo (l.mergeSort fun x y => decide (x ≤ y)).toArray (l.mergeSort fun x y => decide (x ≤ y)).length = sortI l := by
 have hs : (l.mergeSort fun x y => decide (x ≤ y)).Pairwise (· ≤ ·) := by
  have := List.pairwise_mergeSort (le := fun (x y : Int) => decide (x ≤ y)) (fun a b c h1 h2 => by simp at *; omega) (fun a b => by simp; omega) l; exact this.imp fun h => by simpa using h
 obtain ⟨h1, h2⟩ := compact_up _ hs _ (Nat.le_refl _); refine upI_of h1 fun x => (h2 x).trans ?_
 rw [← List.mem_mergeSort (le := fun (x y : Int) => decide (x ≤ y))]; constructor
 · rintro ⟨j, hj, rfl⟩; unfold rd; rw [Int.toNat_natCast, List.getD_eq_getElem?_getD, List.getElem?_eq_getElem hj]; exact List.getElem_mem hj
 · intro h; obtain ⟨j, hj, rfl⟩ := List.getElem_of_mem h; refine ⟨j, hj, ?_⟩; unfold rd; rw [Int.toNat_natCast, List.getD_eq_getElem?_getD, List.getElem?_eq_getElem hj]; rfl
end Go.Proofs.YtkocahlifffgjaaGreat.P
namespace Go.Proofs.YtkocahlifffgjaaGreat.P
open Go.RowKit Go.Proofs.YtkocahlifffgjaaGreatW.PrintWords Go.Proofs.YtkocahlifffgjaaGreatW.PrintLast Go.Proofs.YtkocahlifffgjaaGreatW.PrintMore
attribute [local go_sem] max2_int min2_int max_two min_two max_three min_three max_four min_four
set_option linter.unusedVariables false
set_option linter.unusedSimpArgs false
mutual
def spec_l5Null.l0 : Nat → List Int → Bool → Int → Int → List (List Int) → List (List Int) → List Int → List (List Int) → Option (List Int)
 | 0, _, _, _, _, _, _, _, _ => none
 | k + 1, x3, x4, aY, aV, aM, aW, a6, aZ => if x4 = true then (spec_l5Null.l1 k x3 false aM (aM.length : Int) 0 aY aV aM aW a6 aZ) else (some x3)
def spec_l5Null.l1 : Nat → List Int → Bool → List (List Int) → Int → Int → Int → Int → List (List Int) → List (List Int) → List Int → List (List Int) → Option (List Int)
 | 0, _, _, _, _, _, _, _, _, _, _, _ => none
 | k + 1, x3, x4, dT, le, kf, aY, aV, aM, aW, a6, aZ => if kf < le then (if 0 ≤ kf then (if kf < (dT.length : Int) then (if 0 < ((rd_L1 dT kf).length : Int) then ((spec_l1Has.f k x3 (rd (rd_L1 dT kf) 0)).bind fun cr => (if cr = true then (spec_l5Null.l1 k x3 x4 dT le (wrap64 (kf + 1)) aY aV aM aW a6 aZ) else (if 1 < ((rd_L1 dT kf).length : Int) then ((spec_l1Has.f k x3 (rd (rd_L1 dT kf) 1)).bind fun fQ => (if fQ = true then (if 2 < ((rd_L1 dT kf).length : Int) then ((spec_l1Has.f k x3 (rd (rd_L1 dT kf) 2)).bind fun e0 => (if e0 = true then ((spec_l1Put.f k x3 (rd (rd_L1 dT kf) 0)).bind fun dZ => (spec_l5Null.l1 k dZ true dT le (wrap64 (kf + 1)) aY aV aM aW a6 aZ)) else (spec_l5Null.l1 k x3 x4 dT le (wrap64 (kf + 1)) aY aV aM aW a6 aZ))) else (none)) else (spec_l5Null.l1 k x3 x4 dT le (wrap64 (kf + 1)) aY aV aM aW a6 aZ))) else (none)))) else (none)) else (none)) else (none)) else (spec_l5Null.l2 k x3 x4 aW (aW.length : Int) 0 aY aV aM aW a6 aZ)
def spec_l5Null.l2 : Nat → List Int → Bool → List (List Int) → Int → Int → Int → Int → List (List Int) → List (List Int) → List Int → List (List Int) → Option (List Int)
 | 0, _, _, _, _, _, _, _, _, _, _, _ => none
 | k + 1, x3, x4, mF, qo, lw, aY, aV, aM, aW, a6, aZ => if lw < qo then (if 0 ≤ lw then (if lw < (mF.length : Int) then (if 0 < ((rd_L1 mF lw).length : Int) then ((spec_l1Has.f k x3 (rd (rd_L1 mF lw) 0)).bind fun jx => (if jx = true then (spec_l5Null.l2 k x3 x4 mF qo (wrap64 (lw + 1)) aY aV aM aW a6 aZ) else (if 1 < ((rd_L1 mF lw).length : Int) then ((spec_l1Has.f k x3 (rd (rd_L1 mF lw) 1)).bind fun oo => (if oo = true then ((spec_l1Put.f k x3 (rd (rd_L1 mF lw) 0)).bind fun mG => (spec_l5Null.l2 k mG true mF qo (wrap64 (lw + 1)) aY aV aM aW a6 aZ)) else (spec_l5Null.l2 k x3 x4 mF qo (wrap64 (lw + 1)) aY aV aM aW a6 aZ))) else (none)))) else (none)) else (none)) else (none)) else (spec_l5Null.l0 k x3 x4 aY aV aM aW a6 aZ)
end
def spec_l5Null.f (k : Nat) (ae : Int) (al : Int) (ab : List (List Int)) (af : List (List Int)) (ai : List Int) (ah : List (List Int)) : Option (List Int) := (spec_l1Own.f ai).bind fun aH => (spec_l5Null.l0 k aH true ae al ab af ai ah)
set_option maxHeartbeats 8000000 in
set_option maxRecDepth 100000 in
theorem spec_l5Null.calls (k : Nat) (ae : Int) (al : Int) (az : Option Addr) (aq : Nat) (ab : List (List Int)) (ay : Option Addr) (av : Nat) (af : List (List Int)) (ar : Option Addr) (au : Nat) (ai : List Int) (aw : Option Addr) (ax : Nat) (ah : List (List Int)) (r : List Int) (w : World) (bX : Kd.C (Kd.slice 3 (Kd.int .i64)) w az ab.length ab) (bY : ab.length ≤ aq) (bZ : Kd.C (Kd.slice 3 (Kd.int .i64)) w ay af.length af) (b0 : af.length ≤ av) (b1 : Kd.C (Kd.int .i64) w ar ai.length ai) (b2 : ai.length ≤ au) (b3 : Kd.C (Kd.slice 3 (Kd.int .i64)) w aw ah.length ah) (b4 : ah.length ≤ ax) (h : spec_l5Null.f k ae al ab af ai ah = some r) :
 Calls Tryz.prog 67 #[.agg #[.int .i64 ae, .int .i64 al, .slice az ab.length aq, .slice ay af.length av, .slice ar ai.length au, .slice aw ah.length ax]] w fun e w' => ∃ et : Value, e = .returned (et) ∧ Kd.R (Kd.int .i64) 3 w' w.heap.size (fun _ => True) et r ∧ Below w.heap.size w w' := by
 have hu32 := Tryz.underlying32; have bs := zA bX; have bw := zA bY; clear bX bY; have bt := zA bZ; have bz := zA b0; clear bZ b0; have bA := zA b1; have bB := zA b2; clear b1 b2; have bC := zA b3; have bI := zA b4; clear b3 b4; have HB := zA (Below.refl w.heap.size w); have H : ((spec_l1Own.f ai).bind fun aH => (spec_l5Null.l0 k aH true ae al ab af ai ah)) = some r := h; clear h; replace H := Option.bind_eq_some_iff.mp H; obtain ⟨aH, j5, H⟩ := H; have A2 := zA j5; clear j5; have H' := zA H; clear H; go_enter Tryz.func67, Tryz.ntmps67; go_wp2_with (first | ((with_reducible refine gate_dst (N := 1) rfl ?_); refine box_event ?hg (N := 1) ?hd (cs := #[.int .i64 ae, .int .i64 al, .slice az ab.length aq, .slice ay af.length av, .slice ar ai.length au, .slice aw ah.length ax]) (t := 32) ?hr ?_; (case hd => rfl); (case hg => rfl); (case hr => first | (go_simp; done) | (go_simp; rfl)); intro ad hg w3 hbox hb; have aa := zA (hbox); have bD := zA ((by rw [hg]; exact (zF (zz0q HB)) : w.heap.size ≤ ad)); have ac := zA ((by rw [hg]; exact (zF (zz0q HB)) : w.heap.size ≤ ad)); replace HB := zA (zG (zz0q HB) hb); clear hb hbox hg; obtain ⟨d9, ea, eb, ec, ed, ee⟩ := zk6 aa.out; have lx := zL aa.out 5) | ((with_reducible refine gate_callee (f := 66) rfl ?_); refine goesL_ (some 11) rfl rfl Tryz.func66 zz1c rfl #[.slice ar ai.length au] rfl zz0d ?_; (with_reducible refine (spec_l1Own.calls _ _ ai aH _ ?aj ?ak A2.out).mono ?_); (case aj => exact (zz0t bA HB)); (case ak => exact bB.out); rintro e w5 ⟨e1, rfl, cj, hb⟩; refine ⟨_, rfl, ?_⟩; have d3 := zA (Kd.R_lower cj (zF (zz0h HB ac))); replace aa := zA (zMp aa.out hb); replace HB := zA (zG (zz0h HB ac) hb); (try clear hb); (try clear hb2); (try clear hk); (try clear hi); (try clear cj))); go_loopg [3, 4] k (fun kq v3 v4 w' => ∃ (ej : List Int) (bW : Bool), v4 = .bool bW ∧ Aside0 (spec_l5Null.l0 kq ej bW ae al ab af ai ah = some r) ∧ Aside0 (kq ≤ k) ∧ Aside0 (Kd.R (Kd.int .i64) 3 w' w.heap.size (fun _ => True) v3 ej) ∧ Aside0 (w'.heap[ad]? = some (.cells #[.int .i64 ae, .int .i64 al, (.slice az ab.length aq), (.slice ay af.length av), (.slice ar ai.length au), (.slice aw ah.length ax)] 32 (0, 0))) ∧ Aside0 (Below w.heap.size w w'))
 case atStart => exact ⟨(aH), (true), zz0y, H', ⟨Nat.le_refl _⟩, ⟨zz0u d3⟩, ⟨zz0s aa⟩, ⟨zz0h HB ac⟩⟩
 case round =>
  clear H'; (try clear p2); (try clear d9); (try clear ea); (try clear eb); (try clear ec); (try clear ed); (try clear ee); obtain ⟨ej, bW, rfl, HA, bJ, aA, aa, HB⟩ := hrel; cases gk with
  | zero => exact absurd HA.out (by simp [spec_l5Null.l0])
  | succ k1 =>
   have H := HA.out; clear HA; simp only [spec_l5Null.l0] at H; by_cases c6 : bW = true
   · subst c6; rw [if_pos rfl] at H; have H' := zA H; clear H; obtain ⟨hh, hj, ly, lz, lA, lB⟩ := zk6 aa.out; go_wp2; go_loopg [3, 4, 16] k1 (fun kq v3 v4 v16 w' => ∃ (el : List Int) (cP : Bool) (bo : Int), v4 = .bool cP ∧ v16 = .int .i64 bo ∧ Aside0 (spec_l5Null.l1 kq el cP ab (ab.length : Int) bo ae al ab af ai ah = some r) ∧ Aside0 (kq ≤ k1) ∧ Aside0 (Kd.R (Kd.int .i64) 3 w' w.heap.size (fun _ => True) v3 el) ∧ Aside0 (w'.heap[ad]? = some (.cells #[.int .i64 ae, .int .i64 al, (.slice az ab.length aq), (.slice ay af.length av), (.slice ar ai.length au), (.slice aw ah.length ax)] 32 (0, 0))) ∧ Aside0 (Below w.heap.size w w'))
     case atStart => exact ⟨(ej), (false), (0), zz0y, zz0y, H', ⟨Nat.le_refl _⟩, ⟨zz0u aA⟩, ⟨zz0s aa⟩, ⟨zz0h HB ac⟩⟩
     case round =>
      clear H'; (try clear p2); (try clear c6); (try clear d9); (try clear ea); (try clear eb); (try clear ec); (try clear ed); (try clear ee); (try clear hh); (try clear hj); (try clear ly); (try clear lz); (try clear lA); (try clear lB); (try clear p2); obtain ⟨el, cP, bo, rfl, rfl, HA, cS, aA, aa, HB⟩ := hrel; cases gk with
      | zero => exact absurd HA.out (by simp [spec_l5Null.l1])
      | succ k2 =>
       have H := HA.out; clear HA; simp only [spec_l5Null.l1] at H; by_cases c8 : bo < (ab.length : Int)
       · rw [if_pos c8] at H; have dY := decide_eq_true c8; clear c8; replace H := zIn H; obtain ⟨c9, H⟩ := H; have eN : decide (0 ≤ bo) = true := decide_eq_true c9; clear c9; replace H := zIn H; obtain ⟨eh, H⟩ := H; have eQ : decide (bo < (ab.length : Int)) = true := decide_eq_true eh; clear eh; replace H := zIn H; obtain ⟨eF, H⟩ := H; have gz : decide (0 < ((rd_L1 ab bo).length : Int)) = true := decide_eq_true eF; have nm : decide (0 < (rd_L1 ab bo).length) = true := decide_eq_true zz1g; clear eF; replace H := Option.bind_eq_some_iff.mp H; obtain ⟨cr, pA, H⟩ := H; have qp := zA pA; clear pA; by_cases gm : cr = true
         · subst gm; rw [if_pos rfl] at H; have H' := zA H; clear H; have b8 : 0 ≤ (bo : Int) := of_decide_eq_true zz1b; have b9 : bo < (ab.length : Int) := of_decide_eq_true zz1b; obtain ⟨dP, ev, ew, dC, aG, bu, bv⟩ := at_L1 bs.out bo b8 b9; cases dC; replace aG := (HB.out.cell (World.block_lt_of_cell? w _ aG)).trans aG; have bP := zA bv; have cD := zA bu; clear bv bu; replace b8 := eq_true b8; replace b9 := eq_true b9; have fG : 0 ≤ (0 : Int) := zz1g
           have fH : 0 < ((rd_L1 ab bo).length : Int) := of_decide_eq_true zz1b; obtain ⟨f6, jy, ca⟩ := Kd.at_int bP.out 0 fG fH; cases jy; have lC : (0 < (rd_L1 ab bo).length) = True := eq_true zz1g; (try rw [zi0] at ca); (try rw [Addr.add_zero'] at ca); replace ca := (HB.out.cell (World.block_lt_of_cell? w _ ca)).trans ca; replace fG := eq_true fG; replace fH := eq_true fH; obtain ⟨jz, jA, lD⟩ := Kd.R_slice aA.out; subst lD; go_wp2_with (first | ((with_reducible refine gate_callee (f := 65) rfl ?_); refine goesL_ (some 24) rfl rfl Tryz.func65 zz1c rfl #[.slice jz el.length jA, .int .i64 (rd (rd_L1 ab bo) 0)] rfl zz0d ?_; (with_reducible refine (spec_l1Has.calls k2 _ _ el (rd (rd_L1 ab bo) 0) true _ ?aj ?ak qp.out).mono ?_); (case aj => repeat (first | exact (Kd.R_reads' aA.out).2.2 | refine zP ?_ _ | refine zQ ?_ _ | refine zR ?_)); (case ak => exact (Kd.R_reads' aA.out).2.1); rintro e w' ⟨rfl, ⟨nd, rfl⟩⟩; refine ⟨_, rfl, ?_⟩))
           go_roundg k2
           case measure => have := bJ.out; have := cS.out; omega
           case rel => exact ⟨(el), (cP), (wrap64 (bo + 1)), zz0y, zz0y, H', ⟨zz15 bJ cS⟩, ⟨zz0u aA⟩, ⟨zz0s aa⟩, ⟨zz0h HB ac⟩⟩
         · replace gm := Bool.eq_false_iff.mpr gm; subst gm; rw [if_neg zFt] at H; replace H := zIn H; obtain ⟨jw, H⟩ := H; have i6 : decide (1 < ((rd_L1 ab bo).length : Int)) = true := decide_eq_true jw; have c15b1 : decide (1 < (rd_L1 ab bo).length) = true := decide_eq_true zz1g; clear jw; replace H := Option.bind_eq_some_iff.mp H; obtain ⟨fQ, i7, H⟩ := H; have mH := zA i7; clear i7; by_cases gq : fQ = true
           · subst gq; rw [if_pos rfl] at H; replace H := zIn H; obtain ⟨gr, H⟩ := H; have hl : decide (2 < ((rd_L1 ab bo).length : Int)) = true := decide_eq_true gr; have c18b1 : decide (2 < (rd_L1 ab bo).length) = true := decide_eq_true zz1g; clear gr; replace H := Option.bind_eq_some_iff.mp H; obtain ⟨e0, lE, H⟩ := H; have pB := zA lE; clear lE; by_cases hU : e0 = true
             · subst hU; rw [if_pos rfl] at H; replace H := Option.bind_eq_some_iff.mp H; obtain ⟨dZ, lF, H⟩ := H; have pi := zA lF; clear lF; have H' := zA H; clear H; have b8 : 0 ≤ (bo : Int) := of_decide_eq_true zz1b; have b9 : bo < (ab.length : Int) := of_decide_eq_true zz1b; obtain ⟨dP, ev, ew, dC, aG, bu, bv⟩ := at_L1 bs.out bo b8 b9; cases dC; replace aG := (HB.out.cell (World.block_lt_of_cell? w _ aG)).trans aG; have bP := zA bv; have cD := zA bu; clear bv bu; replace b8 := eq_true b8; replace b9 := eq_true b9; have fG : 0 ≤ (0 : Int) := zz1g
               have fH : 0 < ((rd_L1 ab bo).length : Int) := of_decide_eq_true zz1b; obtain ⟨f6, jy, ca⟩ := Kd.at_int bP.out 0 fG fH; cases jy; have lC : (0 < (rd_L1 ab bo).length) = True := eq_true zz1g; (try rw [zi0] at ca); (try rw [Addr.add_zero'] at ca); replace ca := (HB.out.cell (World.block_lt_of_cell? w _ ca)).trans ca; replace fG := eq_true fG; replace fH := eq_true fH; obtain ⟨mI, mJ, eo22⟩ := Kd.R_slice aA.out; subst eo22; go_wp2_with (first | ((with_reducible refine gate_callee (f := 65) rfl ?_); refine goesL_ (some 24) rfl rfl Tryz.func65 zz1c rfl #[.slice mI el.length mJ, .int .i64 (rd (rd_L1 ab bo) 0)] rfl zz0d ?_; (with_reducible refine (spec_l1Has.calls k2 _ _ el (rd (rd_L1 ab bo) 0) false _ ?aj ?ak qp.out).mono ?_); (case aj => repeat (first | exact (Kd.R_reads' aA.out).2.2 | refine zP ?_ _ | refine zQ ?_ _ | refine zR ?_)); (case ak => exact (Kd.R_reads' aA.out).2.1); rintro e w' ⟨rfl, ⟨nd, rfl⟩⟩; refine ⟨_, rfl, ?_⟩; have fi : 0 ≤ (1 : Int) := zz1g; have fj : 1 < ((rd_L1 ab bo).length : Int) := of_decide_eq_true zz1b; obtain ⟨gA, jB, cb⟩ := Kd.at_int bP.out 1 fi fj; obtain rfl : f6 = gA := (by injection jB); (try simp only [show (1 : Int).toNat = 1 from rfl, Nat.reduceMul, Nat.reduceEqDiff, Go.Addr.add, ↓reduceIte] at cb); have nn : (1 < (rd_L1 ab bo).length) = True := eq_true zz1g; (try rw [zi1] at cb); replace cb := (HB.out.cell (World.block_lt_of_cell? w _ cb)).trans cb; replace fi := eq_true fi; replace fj := eq_true fj) | (go_at_call 65; (with_reducible refine (spec_l1Has.calls k2 _ _ el (rd (rd_L1 ab bo) 1) true _ ?aj ?ak mH.out).mono ?_); (case aj => repeat (first | exact (Kd.R_reads' aA.out).2.2 | refine zP ?_ _ | refine zQ ?_ _ | refine zR ?_)); (case ak => exact (Kd.R_reads' aA.out).2.1); rintro e w' ⟨rfl, ⟨nd, rfl⟩⟩; have i8 : 0 ≤ (2 : Int) := zz1g; have i9 : 2 < ((rd_L1 ab bo).length : Int) := of_decide_eq_true zz1b; obtain ⟨lG, op, dl⟩ := Kd.at_int bP.out 2 i8 i9; obtain rfl : f6 = lG := (by injection op); (try simp only [show (2 : Int).toNat = 2 from rfl, Nat.reduceMul, Nat.reduceEqDiff, Go.Addr.add, ↓reduceIte] at dl); have qi110 : (2 < (rd_L1 ab bo).length) = True := eq_true zz1g; (try rw [zi2] at dl); replace dl := (HB.out.cell (World.block_lt_of_cell? w _ dl)).trans dl; replace i8 := eq_true i8; replace i9 := eq_true i9) | (go_at_call 65; (with_reducible refine (spec_l1Has.calls k2 _ _ el (rd (rd_L1 ab bo) 2) true _ ?aj ?ak pB.out).mono ?_); (case aj => repeat (first | exact (Kd.R_reads' aA.out).2.2 | refine zP ?_ _ | refine zQ ?_ _ | refine zR ?_)); (case ak => exact (Kd.R_reads' aA.out).2.1); rintro e w' ⟨rfl, ⟨nd, rfl⟩⟩; have hX : 0 ≤ (0 : Int) := zz1g; have hY : 0 < ((rd_L1 ab bo).length : Int) := of_decide_eq_true zz1b; obtain ⟨hq, oq, dm⟩ := Kd.at_int bP.out 0 hX hY; obtain rfl : f6 = hq := (by injection oq); have qi112 : (0 < (rd_L1 ab bo).length) = True := eq_true zz1g; (try rw [zi0] at dm); (try rw [Addr.add_zero'] at dm); replace dm := (HB.out.cell (World.block_lt_of_cell? w _ dm)).trans dm; replace hX := eq_true hX; replace hY := eq_true hY) | ((with_reducible refine gate_callee (f := 45) rfl ?_); refine goesL_ (some 44) rfl rfl Tryz.func45 zz1c rfl #[.slice mI el.length mJ, .int .i64 (rd (rd_L1 ab bo) 0)] rfl zz0d ?_; (with_reducible refine (spec_l1Put.calls k2 (fun k_ => some k_ = (.slice mI el.length mJ : Value).ownBlock) (.slice mI el.length mJ) el (rd (rd_L1 ab bo) 0) dZ w _ ?aj ?ak pi.out).mono ?_); (case aj => repeat (first | (with_reducible first | exact HB.out | apply zB | apply zC | apply zD | refine zE ?_ ac.out) | exact HB.out)); (case ak => exact Kd.R_tight rfl aA.out); rintro e ph ⟨d0, rfl, cj, hb, hkp⟩; refine ⟨_, rfl, ?_⟩; replace aa := zA (blk_kept (zz0s aa) hkp (fun hs_ => (fun e_ => (Kd.R_ne aA.out aa.out zz1f) e_) hs_)); have dh := zA (Kd.R_mono (ok' := fun k_ => True) cj (fun k_ hk_ => trivial)); replace HB := zA (hb); clear aA; (try clear hb); (try clear hkp); (try clear cj)))
               go_roundg k2
               case measure => have := bJ.out; have := cS.out; omega
               case rel => exact ⟨(dZ), (true), (wrap64 (bo + 1)), zz0y, zz0y, H', ⟨zz15 bJ cS⟩, ⟨zz0u dh⟩, ⟨zz0s aa⟩, ⟨zz0h HB ac⟩⟩
             · replace hU := Bool.eq_false_iff.mpr hU; subst hU; rw [if_neg zFt] at H; have H' := zA H; clear H; have b8 : 0 ≤ (bo : Int) := of_decide_eq_true zz1b; have b9 : bo < (ab.length : Int) := of_decide_eq_true zz1b; obtain ⟨dP, ev, ew, dC, aG, bu, bv⟩ := at_L1 bs.out bo b8 b9; cases dC; replace aG := (HB.out.cell (World.block_lt_of_cell? w _ aG)).trans aG; have bP := zA bv; have cD := zA bu; clear bv bu; replace b8 := eq_true b8; replace b9 := eq_true b9; have fG : 0 ≤ (0 : Int) := zz1g
               have fH : 0 < ((rd_L1 ab bo).length : Int) := of_decide_eq_true zz1b; obtain ⟨f6, jy, ca⟩ := Kd.at_int bP.out 0 fG fH; cases jy; have lC : (0 < (rd_L1 ab bo).length) = True := eq_true zz1g; (try rw [zi0] at ca); (try rw [Addr.add_zero'] at ca); replace ca := (HB.out.cell (World.block_lt_of_cell? w _ ca)).trans ca; replace fG := eq_true fG; replace fH := eq_true fH; obtain ⟨pC, pD, os⟩ := Kd.R_slice aA.out; subst os; go_wp2_with (first | ((with_reducible refine gate_callee (f := 65) rfl ?_); refine goesL_ (some 24) rfl rfl Tryz.func65 zz1c rfl #[.slice pC el.length pD, .int .i64 (rd (rd_L1 ab bo) 0)] rfl zz0d ?_; (with_reducible refine (spec_l1Has.calls k2 _ _ el (rd (rd_L1 ab bo) 0) false _ ?aj ?ak qp.out).mono ?_); (case aj => repeat (first | exact (Kd.R_reads' aA.out).2.2 | refine zP ?_ _ | refine zQ ?_ _ | refine zR ?_)); (case ak => exact (Kd.R_reads' aA.out).2.1); rintro e w' ⟨rfl, ⟨nd, rfl⟩⟩; refine ⟨_, rfl, ?_⟩; have fi : 0 ≤ (1 : Int) := zz1g; have fj : 1 < ((rd_L1 ab bo).length : Int) := of_decide_eq_true zz1b; obtain ⟨gA, jB, cb⟩ := Kd.at_int bP.out 1 fi fj; obtain rfl : f6 = gA := (by injection jB); (try simp only [show (1 : Int).toNat = 1 from rfl, Nat.reduceMul, Nat.reduceEqDiff, Go.Addr.add, ↓reduceIte] at cb); have nn : (1 < (rd_L1 ab bo).length) = True := eq_true zz1g; (try rw [zi1] at cb); replace cb := (HB.out.cell (World.block_lt_of_cell? w _ cb)).trans cb; replace fi := eq_true fi; replace fj := eq_true fj) | (go_at_call 65; (with_reducible refine (spec_l1Has.calls k2 _ _ el (rd (rd_L1 ab bo) 1) true _ ?aj ?ak mH.out).mono ?_); (case aj => repeat (first | exact (Kd.R_reads' aA.out).2.2 | refine zP ?_ _ | refine zQ ?_ _ | refine zR ?_)); (case ak => exact (Kd.R_reads' aA.out).2.1); rintro e w' ⟨rfl, ⟨nd, rfl⟩⟩; have i8 : 0 ≤ (2 : Int) := zz1g; have i9 : 2 < ((rd_L1 ab bo).length : Int) := of_decide_eq_true zz1b; obtain ⟨lG, op, dl⟩ := Kd.at_int bP.out 2 i8 i9; obtain rfl : f6 = lG := (by injection op); (try simp only [show (2 : Int).toNat = 2 from rfl, Nat.reduceMul, Nat.reduceEqDiff, Go.Addr.add, ↓reduceIte] at dl); have qi110 : (2 < (rd_L1 ab bo).length) = True := eq_true zz1g; (try rw [zi2] at dl); replace dl := (HB.out.cell (World.block_lt_of_cell? w _ dl)).trans dl; replace i8 := eq_true i8; replace i9 := eq_true i9) | (go_at_call 65; (with_reducible refine (spec_l1Has.calls k2 _ _ el (rd (rd_L1 ab bo) 2) false _ ?aj ?ak pB.out).mono ?_); (case aj => repeat (first | exact (Kd.R_reads' aA.out).2.2 | refine zP ?_ _ | refine zQ ?_ _ | refine zR ?_)); (case ak => exact (Kd.R_reads' aA.out).2.1); rintro e w' ⟨rfl, ⟨nd, rfl⟩⟩))
               go_roundg k2
               case measure => have := bJ.out; have := cS.out; omega
               case rel => exact ⟨(el), (cP), (wrap64 (bo + 1)), zz0y, zz0y, H', ⟨zz15 bJ cS⟩, ⟨zz0u aA⟩, ⟨zz0s aa⟩, ⟨zz0h HB ac⟩⟩
           · replace gq := Bool.eq_false_iff.mpr gq; subst gq; rw [if_neg zFt] at H; have H' := zA H; clear H; have b8 : 0 ≤ (bo : Int) := of_decide_eq_true zz1b; have b9 : bo < (ab.length : Int) := of_decide_eq_true zz1b; obtain ⟨dP, ev, ew, dC, aG, bu, bv⟩ := at_L1 bs.out bo b8 b9; cases dC; replace aG := (HB.out.cell (World.block_lt_of_cell? w _ aG)).trans aG; have bP := zA bv; have cD := zA bu; clear bv bu; replace b8 := eq_true b8; replace b9 := eq_true b9; have fG : 0 ≤ (0 : Int) := zz1g
             have fH : 0 < ((rd_L1 ab bo).length : Int) := of_decide_eq_true zz1b; obtain ⟨f6, jy, ca⟩ := Kd.at_int bP.out 0 fG fH; cases jy; have lC : (0 < (rd_L1 ab bo).length) = True := eq_true zz1g; (try rw [zi0] at ca); (try rw [Addr.add_zero'] at ca); replace ca := (HB.out.cell (World.block_lt_of_cell? w _ ca)).trans ca; replace fG := eq_true fG; replace fH := eq_true fH; obtain ⟨Ao25, co25, eo25⟩ := Kd.R_slice aA.out; subst eo25; go_wp2_with (first | ((with_reducible refine gate_callee (f := 65) rfl ?_); refine goesL_ (some 24) rfl rfl Tryz.func65 zz1c rfl #[.slice Ao25 el.length co25, .int .i64 (rd (rd_L1 ab bo) 0)] rfl zz0d ?_; (with_reducible refine (spec_l1Has.calls k2 _ _ el (rd (rd_L1 ab bo) 0) false _ ?aj ?ak qp.out).mono ?_); (case aj => repeat (first | exact (Kd.R_reads' aA.out).2.2 | refine zP ?_ _ | refine zQ ?_ _ | refine zR ?_)); (case ak => exact (Kd.R_reads' aA.out).2.1); rintro e w' ⟨rfl, ⟨nd, rfl⟩⟩; refine ⟨_, rfl, ?_⟩; have fi : 0 ≤ (1 : Int) := zz1g; have fj : 1 < ((rd_L1 ab bo).length : Int) := of_decide_eq_true zz1b; obtain ⟨gA, jB, cb⟩ := Kd.at_int bP.out 1 fi fj; obtain rfl : f6 = gA := (by injection jB); (try simp only [show (1 : Int).toNat = 1 from rfl, Nat.reduceMul, Nat.reduceEqDiff, Go.Addr.add, ↓reduceIte] at cb); have nn : (1 < (rd_L1 ab bo).length) = True := eq_true zz1g; (try rw [zi1] at cb); replace cb := (HB.out.cell (World.block_lt_of_cell? w _ cb)).trans cb; replace fi := eq_true fi; replace fj := eq_true fj) | (go_at_call 65; (with_reducible refine (spec_l1Has.calls k2 _ _ el (rd (rd_L1 ab bo) 1) false _ ?aj ?ak mH.out).mono ?_); (case aj => repeat (first | exact (Kd.R_reads' aA.out).2.2 | refine zP ?_ _ | refine zQ ?_ _ | refine zR ?_)); (case ak => exact (Kd.R_reads' aA.out).2.1); rintro e w' ⟨rfl, ⟨nd, rfl⟩⟩))
             go_roundg k2
             case measure => have := bJ.out; have := cS.out; omega
             case rel => exact ⟨(el), (cP), (wrap64 (bo + 1)), zz0y, zz0y, H', ⟨zz15 bJ cS⟩, ⟨zz0u aA⟩, ⟨zz0s aa⟩, ⟨zz0h HB ac⟩⟩
       · rw [if_neg c8] at H; have dY := decide_eq_false c8; clear c8; have H' := zA H; clear H; obtain ⟨ip, iq, ir, it, iu, iv⟩ := zk6 aa.out; go_wp2; go_loopg [3, 4, 49] k2 (fun kq v3 v4 v49 w' => ∃ (fk : List Int) (kT : Bool) (bV : Int), v4 = .bool kT ∧ v49 = .int .i64 bV ∧ Aside0 (spec_l5Null.l2 kq fk kT af (af.length : Int) bV ae al ab af ai ah = some r) ∧ Aside0 (kq ≤ k2) ∧ Aside0 (Kd.R (Kd.int .i64) 3 w' w.heap.size (fun _ => True) v3 fk) ∧ Aside0 (w'.heap[ad]? = some (.cells #[.int .i64 ae, .int .i64 al, (.slice az ab.length aq), (.slice ay af.length av), (.slice ar ai.length au), (.slice aw ah.length ax)] 32 (0, 0))) ∧ Aside0 (Below w.heap.size w w'))
         case atStart => exact ⟨(el), (cP), (0), zz0y, zz0y, H', ⟨Nat.le_refl _⟩, ⟨zz0u aA⟩, ⟨zz0s aa⟩, ⟨zz0h HB ac⟩⟩
         case round =>
          clear H'; (try clear c1); (try clear p1); (try clear q1); (try clear mK); (try clear qC); (try clear c2); (try clear p2); (try clear c4); (try clear c6); (try clear p6); (try clear c8); (try clear dY); (try clear c9); (try clear eN); (try clear eh); (try clear eQ); (try clear iP); (try clear iQ); (try clear iw); (try clear qi10); (try clear eF); (try clear gz); (try clear nm); (try clear pj); (try clear pk); (try clear lH); (try clear ot); (try clear gm); (try clear jw); (try clear i6); (try clear c15b1); (try clear gq); (try clear gr); (try clear hl); (try clear c18b1); (try clear hU); (try clear ip); (try clear iq); (try clear ir); (try clear it); (try clear iu); (try clear iv); (try clear d9); (try clear ea); (try clear eb); (try clear ec); (try clear ed); (try clear ee); (try clear hh); (try clear hj); (try clear ly); (try clear lz); (try clear lA); (try clear lB); (try clear aG); (try clear ca); (try clear cb); (try clear dl); (try clear dm); (try clear b8); (try clear fG); (try clear fi); (try clear i8); (try clear hX); (try clear p2); (try clear b9); (try clear fH); (try clear fj); (try clear i9); (try clear hY); obtain ⟨fk, kT, bV, rfl, rfl, HA, np, aA, aa, HB⟩ := hrel; cases gk with
          | zero => exact absurd HA.out (by simp [spec_l5Null.l2])
          | succ k3 =>
           have H := HA.out; clear HA; simp only [spec_l5Null.l2] at H; by_cases gp : bV < (af.length : Int)
           · rw [if_pos gp] at H; have hs := decide_eq_true gp; clear gp; replace H := zIn H; obtain ⟨lf, H⟩ := H; have i2 : decide (0 ≤ bV) = true := decide_eq_true lf; clear lf; replace H := zIn H; obtain ⟨ou, H⟩ := H; have c29b0 : decide (bV < (af.length : Int)) = true := decide_eq_true ou; clear ou; replace H := zIn H; obtain ⟨i3, H⟩ := H; have nq : decide (0 < ((rd_L1 af bV).length : Int)) = true := decide_eq_true i3; have nr : decide (0 < (rd_L1 af bV).length) = true := decide_eq_true zz1g; clear i3; replace H := Option.bind_eq_some_iff.mp H; obtain ⟨jx, pE, H⟩ := H; have qD := zA pE; clear pE; by_cases kU : jx = true
             · subst kU; rw [if_pos rfl] at H; have H' := zA H; clear H; have em : 0 ≤ (bV : Int) := of_decide_eq_true zz1b; have en : bV < (af.length : Int) := of_decide_eq_true zz1b; obtain ⟨fs, lI, lJ, ht, bq, eG, eH⟩ := at_L1 bt.out bV em en; cases ht; replace bq := (HB.out.cell (World.block_lt_of_cell? w _ bq)).trans bq; have eI := zA eH; have kg := zA eG; clear eH eG; replace em := eq_true em; replace en := eq_true en; have eo : 0 ≤ (0 : Int) := zz1g
               have ep : 0 < ((rd_L1 af bV).length : Int) := of_decide_eq_true zz1b; obtain ⟨ft, hu, bd⟩ := Kd.at_int eI.out 0 eo ep; cases hu; have ja : (0 < (rd_L1 af bV).length) = True := eq_true zz1g; (try rw [zi0] at bd); (try rw [Addr.add_zero'] at bd); replace bd := (HB.out.cell (World.block_lt_of_cell? w _ bd)).trans bd; replace eo := eq_true eo; replace ep := eq_true ep; obtain ⟨jC, jD, kV⟩ := Kd.R_slice aA.out; subst kV; go_wp2_with (first | ((with_reducible refine gate_callee (f := 65) rfl ?_); refine goesL_ (some 57) rfl rfl Tryz.func65 zz1c rfl #[.slice jC fk.length jD, .int .i64 (rd (rd_L1 af bV) 0)] rfl zz0d ?_; (with_reducible refine (spec_l1Has.calls k3 _ _ fk (rd (rd_L1 af bV) 0) true _ ?aj ?ak qD.out).mono ?_); (case aj => repeat (first | exact (Kd.R_reads' aA.out).2.2 | refine zP ?_ _ | refine zQ ?_ _ | refine zR ?_)); (case ak => exact (Kd.R_reads' aA.out).2.1); rintro e w' ⟨rfl, ⟨nd, rfl⟩⟩; refine ⟨_, rfl, ?_⟩))
               go_roundg k3
               case measure => have := bJ.out; have := cS.out; have := np.out; omega
               case rel => exact ⟨(fk), (kT), (wrap64 (bV + 1)), zz0y, zz0y, H', ⟨zz11 bJ cS np⟩, ⟨zz0u aA⟩, ⟨zz0s aa⟩, ⟨zz0h HB ac⟩⟩
             · replace kU := Bool.eq_false_iff.mpr kU; subst kU; rw [if_neg zFt] at H; replace H := zIn H; obtain ⟨pF, H⟩ := H; have ns : decide (1 < ((rd_L1 af bV).length : Int)) = true := decide_eq_true pF; have c34b1 : decide (1 < (rd_L1 af bV).length) = true := decide_eq_true zz1g; clear pF; replace H := Option.bind_eq_some_iff.mp H; obtain ⟨oo, pG, H⟩ := H; have q6 := zA pG; clear pG; by_cases mv : oo = true
               · subst mv; rw [if_pos rfl] at H; replace H := Option.bind_eq_some_iff.mp H; obtain ⟨mG, pH, H⟩ := H; have qn := zA pH; clear pH; have H' := zA H; clear H; have em : 0 ≤ (bV : Int) := of_decide_eq_true zz1b; have en : bV < (af.length : Int) := of_decide_eq_true zz1b; obtain ⟨fs, lI, lJ, ht, bq, eG, eH⟩ := at_L1 bt.out bV em en; cases ht; replace bq := (HB.out.cell (World.block_lt_of_cell? w _ bq)).trans bq; have eI := zA eH; have kg := zA eG; clear eH eG; replace em := eq_true em; replace en := eq_true en; have eo : 0 ≤ (0 : Int) := zz1g
                 have ep : 0 < ((rd_L1 af bV).length : Int) := of_decide_eq_true zz1b; obtain ⟨ft, hu, bd⟩ := Kd.at_int eI.out 0 eo ep; cases hu; have ja : (0 < (rd_L1 af bV).length) = True := eq_true zz1g; (try rw [zi0] at bd); (try rw [Addr.add_zero'] at bd); replace bd := (HB.out.cell (World.block_lt_of_cell? w _ bd)).trans bd; replace eo := eq_true eo; replace ep := eq_true ep; obtain ⟨mL, mM, eo38⟩ := Kd.R_slice aA.out; subst eo38; go_wp2_with (first | ((with_reducible refine gate_callee (f := 65) rfl ?_); refine goesL_ (some 57) rfl rfl Tryz.func65 zz1c rfl #[.slice mL fk.length mM, .int .i64 (rd (rd_L1 af bV) 0)] rfl zz0d ?_; (with_reducible refine (spec_l1Has.calls k3 _ _ fk (rd (rd_L1 af bV) 0) false _ ?aj ?ak qD.out).mono ?_); (case aj => repeat (first | exact (Kd.R_reads' aA.out).2.2 | refine zP ?_ _ | refine zQ ?_ _ | refine zR ?_)); (case ak => exact (Kd.R_reads' aA.out).2.1); rintro e w' ⟨rfl, ⟨nd, rfl⟩⟩; refine ⟨_, rfl, ?_⟩; have eR : 0 ≤ (1 : Int) := zz1g; have eS : 1 < ((rd_L1 af bV).length : Int) := of_decide_eq_true zz1b; obtain ⟨gB, ix, bx⟩ := Kd.at_int eI.out 1 eR eS; obtain rfl : ft = gB := (by injection ix); (try simp only [show (1 : Int).toNat = 1 from rfl, Nat.reduceMul, Nat.reduceEqDiff, Go.Addr.add, ↓reduceIte] at bx); have kh : (1 < (rd_L1 af bV).length) = True := eq_true zz1g; (try rw [zi1] at bx); replace bx := (HB.out.cell (World.block_lt_of_cell? w _ bx)).trans bx; replace eR := eq_true eR; replace eS := eq_true eS) | (go_at_call 65; (with_reducible refine (spec_l1Has.calls k3 _ _ fk (rd (rd_L1 af bV) 1) true _ ?aj ?ak q6.out).mono ?_); (case aj => repeat (first | exact (Kd.R_reads' aA.out).2.2 | refine zP ?_ _ | refine zQ ?_ _ | refine zR ?_)); (case ak => exact (Kd.R_reads' aA.out).2.1); rintro e w' ⟨rfl, ⟨nd, rfl⟩⟩; have jb : 0 ≤ (0 : Int) := zz1g; have jc : 0 < ((rd_L1 af bV).length : Int) := of_decide_eq_true zz1b; obtain ⟨nt, ov, e2⟩ := Kd.at_int eI.out 0 jb jc; obtain rfl : ft = nt := (by injection ov); have qi121 : (0 < (rd_L1 af bV).length) = True := eq_true zz1g; (try rw [zi0] at e2); (try rw [Addr.add_zero'] at e2); replace e2 := (HB.out.cell (World.block_lt_of_cell? w _ e2)).trans e2; replace jb := eq_true jb; replace jc := eq_true jc) | ((with_reducible refine gate_callee (f := 45) rfl ?_); refine goesL_ (some 70) rfl rfl Tryz.func45 zz1c rfl #[.slice mL fk.length mM, .int .i64 (rd (rd_L1 af bV) 0)] rfl zz0d ?_; (with_reducible refine (spec_l1Put.calls k3 (fun k_ => some k_ = (.slice mL fk.length mM : Value).ownBlock) (.slice mL fk.length mM) fk (rd (rd_L1 af bV) 0) mG w _ ?aj ?ak qn.out).mono ?_); (case aj => repeat (first | (with_reducible first | exact HB.out | apply zB | apply zC | apply zD | refine zE ?_ ac.out) | exact HB.out)); (case ak => exact Kd.R_tight rfl aA.out); rintro e qE ⟨v123, rfl, cj, hb, hkp⟩; refine ⟨_, rfl, ?_⟩; replace aa := zA (blk_kept (zz0s aa) hkp (fun hs_ => (fun e_ => (Kd.R_ne aA.out aa.out zz1f) e_) hs_)); have HO124 := zA (Kd.R_mono (ok' := fun k_ => True) cj (fun k_ hk_ => trivial)); replace HB := zA (hb); clear aA; (try clear hb); (try clear hkp); (try clear cj)))
                 go_roundg k3
                 case measure => have := bJ.out; have := cS.out; have := np.out; omega
                 case rel => exact ⟨(mG), (true), (wrap64 (bV + 1)), zz0y, zz0y, H', ⟨zz11 bJ cS np⟩, ⟨zz0u HO124⟩, ⟨zz0s aa⟩, ⟨zz0h HB ac⟩⟩
               · replace mv := Bool.eq_false_iff.mpr mv; subst mv; rw [if_neg zFt] at H; have H' := zA H; clear H; have em : 0 ≤ (bV : Int) := of_decide_eq_true zz1b; have en : bV < (af.length : Int) := of_decide_eq_true zz1b; obtain ⟨fs, lI, lJ, ht, bq, eG, eH⟩ := at_L1 bt.out bV em en; cases ht; replace bq := (HB.out.cell (World.block_lt_of_cell? w _ bq)).trans bq; have eI := zA eH; have kg := zA eG; clear eH eG; replace em := eq_true em; replace en := eq_true en; have eo : 0 ≤ (0 : Int) := zz1g
                 have ep : 0 < ((rd_L1 af bV).length : Int) := of_decide_eq_true zz1b; obtain ⟨ft, hu, bd⟩ := Kd.at_int eI.out 0 eo ep; cases hu; have ja : (0 < (rd_L1 af bV).length) = True := eq_true zz1g; (try rw [zi0] at bd); (try rw [Addr.add_zero'] at bd); replace bd := (HB.out.cell (World.block_lt_of_cell? w _ bd)).trans bd; replace eo := eq_true eo; replace ep := eq_true ep; obtain ⟨Ao40, co40, eo40⟩ := Kd.R_slice aA.out; subst eo40; go_wp2_with (first | ((with_reducible refine gate_callee (f := 65) rfl ?_); refine goesL_ (some 57) rfl rfl Tryz.func65 zz1c rfl #[.slice Ao40 fk.length co40, .int .i64 (rd (rd_L1 af bV) 0)] rfl zz0d ?_; (with_reducible refine (spec_l1Has.calls k3 _ _ fk (rd (rd_L1 af bV) 0) false _ ?aj ?ak qD.out).mono ?_); (case aj => repeat (first | exact (Kd.R_reads' aA.out).2.2 | refine zP ?_ _ | refine zQ ?_ _ | refine zR ?_)); (case ak => exact (Kd.R_reads' aA.out).2.1); rintro e w' ⟨rfl, ⟨nd, rfl⟩⟩; refine ⟨_, rfl, ?_⟩; have eR : 0 ≤ (1 : Int) := zz1g; have eS : 1 < ((rd_L1 af bV).length : Int) := of_decide_eq_true zz1b; obtain ⟨gB, ix, bx⟩ := Kd.at_int eI.out 1 eR eS; obtain rfl : ft = gB := (by injection ix); (try simp only [show (1 : Int).toNat = 1 from rfl, Nat.reduceMul, Nat.reduceEqDiff, Go.Addr.add, ↓reduceIte] at bx); have kh : (1 < (rd_L1 af bV).length) = True := eq_true zz1g; (try rw [zi1] at bx); replace bx := (HB.out.cell (World.block_lt_of_cell? w _ bx)).trans bx; replace eR := eq_true eR; replace eS := eq_true eS) | (go_at_call 65; (with_reducible refine (spec_l1Has.calls k3 _ _ fk (rd (rd_L1 af bV) 1) false _ ?aj ?ak q6.out).mono ?_); (case aj => repeat (first | exact (Kd.R_reads' aA.out).2.2 | refine zP ?_ _ | refine zQ ?_ _ | refine zR ?_)); (case ak => exact (Kd.R_reads' aA.out).2.1); rintro e w' ⟨rfl, ⟨nd, rfl⟩⟩))
                 go_roundg k3
                 case measure => have := bJ.out; have := cS.out; have := np.out; omega
                 case rel => exact ⟨(fk), (kT), (wrap64 (bV + 1)), zz0y, zz0y, H', ⟨zz11 bJ cS np⟩, ⟨zz0u aA⟩, ⟨zz0s aa⟩, ⟨zz0h HB ac⟩⟩
           · rw [if_neg gp] at H; have hs := decide_eq_false gp; clear gp; have H' := zA H; clear H; go_wp2
             go_roundg k3
             case measure => have := bJ.out; have := cS.out; have := np.out; omega
             case rel => exact ⟨(fk), (kT), zz0y, H', ⟨zz11 bJ cS np⟩, ⟨zz0u aA⟩, ⟨zz0s aa⟩, ⟨zz0h HB ac⟩⟩
   · replace c6 := Bool.eq_false_iff.mpr c6; subst c6; rw [if_neg zFt] at H; obtain rfl := Option.some.inj H; go_wp2; go_ret; exact ⟨_, zz0r, zz0u aA, zz0h HB ac⟩
end Go.Proofs.YtkocahlifffgjaaGreat.P
namespace Go.Proofs.YtkocahlifffgjaaGreat.P
open Go.RowKit Go.Proofs.YtkocahlifffgjaaGreatW.PrintWords
set_option linter.unusedVariables false
set_option linter.unusedSimpArgs false
theorem putI_len_new (l : List Int) (n : Int) (h : n ∉ l) : (putI l n).length = l.length + 1 := by
 induction l with
 | nil => rfl
 | cons a l ih =>
  have h1 : n ≠ a := fun e => h (e ▸ List.mem_cons_self)
  have h2 : n ∉ l := fun e => h (List.mem_cons_of_mem _ e)
  simp only [putI]; by_cases c : a < n
  · rw [if_pos c, List.length_cons, ih h2]; rfl
  · rw [if_neg c, if_neg (fun e => h1 e.symm)]; rfl
structure NlI (n : Nat) (es : List Int) (rows : List (List Int)) (out : List Int) : Prop where
 up : UpI out
 lo : ∀ x, x ∈ es → x ∈ out
 hi : ∀ x, x ∈ out → (0 ≤ x ∧ x < n) ∧ NulR es rows x
def clR (out : List Int) (l : List Int) : Prop := rd l 0 ∈ out ∨ ∃ j : Nat, 1 ≤ j ∧ j < l.length ∧ rd l j ∉ out
theorem NlI.len {n : Nat} {es : List Int} {rows : List (List Int)} {out : List Int} (h : NlI n es rows out) : out.length ≤ n := by
 have := upI_len out 0 n h.up (fun x hx => (h.hi x hx).1) zz1g; omega
theorem NlI.put {n : Nat} {es : List Int} {rows : List (List Int)} {out : List Int} (h : NlI n es rows out) {l : List Int} (hl : l ∈ rows) (h0 : 0 ≤ rd l 0 ∧ rd l 0 < n) (hj : ∀ j : Nat, 1 ≤ j → j < l.length → rd l j ∈ out) : NlI n es rows (putI out (rd l 0)) :=
 ⟨upI_put _ _ h.up, fun x hx => (mem_putI _ _ _).2 (.inr (h.lo x hx)), fun x hx => by
  rcases (mem_putI _ _ _).1 hx with e | e
  · rw [e]; exact ⟨h0, .step hl (fun j a b => (h.hi _ (hj j a b)).1.1) (fun j a b => (h.hi _ (hj j a b)).2)⟩
  · exact h.hi x e⟩
theorem NlI.fin {n : Nat} {es : List Int} {rows : List (List Int)} {out : List Int} (h : NlI n es rows out) (hr : rowsIn n rows) (he : ∀ x, x ∈ es → 0 ≤ x ∧ x < n) (hc : ∀ l, l ∈ rows → clR out l) : out = setB (nulV n es rows) := by
 refine setB_of h.up fun x => ?_
 rw [nulV_len hr he]; have key : ∀ x : Int, 0 ≤ x → x < n → ((nulV n es rows).getD x.toNat false = true ↔ NulR es rows x) := fun z h0 h1 => by
  have := nulV_at hr he (i := z.toNat) zz1g; rwa [show ((z.toNat : Nat) : Int) = z by omega] at this
 constructor
 · intro hx; obtain ⟨h1, h2⟩ := h.hi x hx; exact ⟨h1, (key x h1.1 h1.2).2 h2⟩
 · rintro ⟨h1, h2⟩; exact ((key x h1.1 h1.2).1 h2).least (T := fun x => x ∈ out) h.lo (fun l hl hj => (hc l hl).elim id (fun ⟨j, a, b, hn⟩ => absurd (hj j a b).2 hn))
structure PsI (n : Nat) (es : List Int) (rows : List (List Int)) (m0 : Nat) (done : List Int → Prop) (out : List Int) (more : Bool) : Prop where
 ni : NlI n es rows out
 le : m0 ≤ out.length
 lt : more = true → m0 < out.length
 cl : more = false → ∀ l, done l → clR out l
theorem PsI.skip {n : Nat} {es : List Int} {rows : List (List Int)} {m0 : Nat} {done done' : List Int → Prop} {out : List Int} {more : Bool} (h : PsI n es rows m0 done out more) {l : List Int} (hd : ∀ x, done' x → done x ∨ x = l) (hc : clR out l) : PsI n es rows m0 done' out more :=
 ⟨h.ni, h.le, h.lt, fun hm x hx => (hd x hx).elim (h.cl hm x) (fun e => by rw [e]; exact hc)⟩
theorem PsI.put {n : Nat} {es : List Int} {rows : List (List Int)} {m0 : Nat} {done done' : List Int → Prop} {out : List Int} {more : Bool} (h : PsI n es rows m0 done out more) {l : List Int} (hl : l ∈ rows) (h0 : 0 ≤ rd l 0 ∧ rd l 0 < n) (hn : rd l 0 ∉ out) (hj : ∀ j : Nat, 1 ≤ j → j < l.length → rd l j ∈ out) : PsI n es rows m0 done' (putI out (rd l 0)) true := by
 have hlen := putI_len_new out (rd l 0) hn; have := h.le; exact ⟨h.ni.put hl h0 hj, zz1g, fun _ => by omega, fun e => by cases e⟩
def fstOf (rs : List (List Int)) (i : Nat) (l : List Int) : Prop := ∃ j : Nat, j < i ∧ l = rs.getD j []
theorem fstOf_succ {rs : List (List Int)} {i : Nat} {l : List Int} (h : fstOf rs (i + 1) l) : fstOf rs i l ∨ l = rs.getD i [] := by
 obtain ⟨j, hj, e⟩ := h; by_cases c : j = i
 · subst c; exact .inr e
 · exact .inl ⟨j, zz1g, e⟩
theorem fstOf_all {rs : List (List Int)} {l : List Int} (h : l ∈ rs) {i : Nat} (hi : rs.length ≤ i) : fstOf rs i l := by
 obtain ⟨j, hj, rfl⟩ := List.getElem_of_mem h; exact ⟨j, zz1g, by rw [List.getD_eq_getElem?_getD, List.getElem?_eq_getElem hj]; rfl⟩
section
variable {n : Nat} {toks : Int} {ps os : List (List Int)} {es : List Int} {fs : List (List Int)} (ok : OkB (n : Int) toks ps os es)
include ok
theorem null_l2 (ho : os.length ≤ 9223372036854775807) (X : List Int) (m0 : Nat) (h0 : ∀ out more, PsI n es (ps ++ os) m0 (fun l => l ∈ ps ∨ l ∈ os) out more → Ev (fun k => spec_l5Null.l0 k out more (n : Int) toks ps os es fs) X) (d : Nat) : ∀ (i : Nat) (out : List Int) (more : Bool), i ≤ os.length → os.length - i = d → PsI n es (ps ++ os) m0 (fun l => l ∈ ps ∨ fstOf os i l) out more →
 Ev (fun k => spec_l5Null.l2 k out more os os.length i (n : Int) toks ps os es fs) X := by
 have hn40 := ok.n
 induction d with
 | zero =>
  intro i out more h1 hd hp; obtain ⟨K, h⟩ := h0 out more ⟨hp.ni, hp.le, hp.lt, fun hm l hl => hp.cl hm l (hl.imp id fun h => fstOf_all h zz1g)⟩; dsimp only at h; refine ⟨K + 1, fun k hk => ?_⟩; dsimp only; obtain ⟨k, rfl⟩ : ∃ m, k = m + 1 := ⟨k - 1, zz1g⟩
  simp only [spec_l5Null.l2]; rw [if_neg zz1g]; exact h k zz1g
 | succ d ih =>
  intro i out more h1 hd hp; have hil : i < os.length := by omega
  have hlen := hp.ni.len; have hmem : rd_L1 os i ∈ os := by unfold rd_L1; rw [Int.toNat_natCast, List.getD_eq_getElem?_getD, List.getElem?_eq_getElem hil]; exact List.getElem_mem hil
  have ew : wrap64 ((i : Int) + 1) = ((i + 1 : Nat) : Int) := wsuccL hil ho; have eg : os.getD i [] = rd_L1 os i := rfl; obtain ⟨y2, yin⟩ := ok.o _ hmem; have skip : clR out (rd_L1 os i) → Ev (fun k => spec_l5Null.l2 k out more os os.length (wrap64 ((i : Int) + 1)) (n : Int) toks ps os es fs) X := fun hc => by
   rw [ew]; exact ih (i + 1) out more zz1g zz1g (hp.skip (l := rd_L1 os i) (fun x hx => hx.elim (fun h => .inl (.inl h)) (fun h => (fstOf_succ h).imp .inr (fun e => by rw [e, eg]))) hc)
  have put : rd (rd_L1 os i) 0 ∉ out → rd (rd_L1 os i) 1 ∈ out → Ev (fun k => spec_l5Null.l2 k (putI out (rd (rd_L1 os i) 0)) true os os.length (wrap64 ((i : Int) + 1)) (n : Int) toks ps os es fs) X := fun hn h1 => by
   rw [ew]; exact ih (i + 1) _ true zz1g zz1g (hp.put (List.mem_append_right _ hmem) yin.1 hn (fun j a b => by rw [show j = 1 by omega]; exact h1))
  obtain ⟨y, hy⟩ : ∃ y, y = rd_L1 os i := ⟨_, rfl⟩
  rw [← hy] at y2 skip put; by_cases c0 : rd y 0 ∈ out
  · obtain ⟨K, h⟩ := skip (.inl c0); dsimp only at h; refine ⟨K + 100, fun k hk => ?_⟩; dsimp only; obtain ⟨k, rfl⟩ : ∃ m, k = m + 1 := ⟨k - 1, zz1g⟩
    simp only [spec_l5Null.l2]; rw [if_pos zz1g, if_pos zz1g, if_pos zz1g, ← hy, if_pos zz1g, has_eq out _ zz1g k zz1g, decide_eq_true c0]; exact h k zz1g
  · by_cases c1 : rd y 1 ∈ out
    · obtain ⟨K, h⟩ := put c0 c1; dsimp only at h; refine ⟨K + 100, fun k hk => ?_⟩; dsimp only; obtain ⟨k, rfl⟩ : ∃ m, k = m + 1 := ⟨k - 1, zz1g⟩
      simp only [spec_l5Null.l2]; rw [if_pos zz1g, if_pos zz1g, if_pos zz1g, ← hy, if_pos zz1g, has_eq out _ zz1g k zz1g, has_eq out _ zz1g k zz1g, decide_eq_false c0, decide_eq_true c1, put_eq out _ zz1g k zz1g]; simp only [Option.bind_some]; rw [if_neg zz1f, if_pos zz1g, if_pos trivial]; exact h k zz1g
    · obtain ⟨K, h⟩ := skip (.inr ⟨1, zz1g, zz1g, c1⟩); dsimp only at h; refine ⟨K + 100, fun k hk => ?_⟩; dsimp only; obtain ⟨k, rfl⟩ : ∃ m, k = m + 1 := ⟨k - 1, zz1g⟩
      simp only [spec_l5Null.l2]; rw [if_pos zz1g, if_pos zz1g, if_pos zz1g, ← hy, if_pos zz1g, has_eq out _ zz1g k zz1g, has_eq out _ zz1g k zz1g, decide_eq_false c0, decide_eq_false c1]; simp only [Option.bind_some]; rw [if_neg zz1f, if_pos zz1g, if_neg zz1f]; exact h k zz1g
theorem null_l1 (hpl : ps.length ≤ 9223372036854775807) (X : List Int) (m0 : Nat) (h0 : ∀ out more, PsI n es (ps ++ os) m0 (fun l => l ∈ ps ∨ fstOf os 0 l) out more → Ev (fun k => spec_l5Null.l2 k out more os os.length 0 (n : Int) toks ps os es fs) X) (d : Nat) : ∀ (i : Nat) (out : List Int) (more : Bool), i ≤ ps.length → ps.length - i = d → PsI n es (ps ++ os) m0 (fun l => fstOf ps i l) out more →
 Ev (fun k => spec_l5Null.l1 k out more ps ps.length i (n : Int) toks ps os es fs) X := by
 have hn40 := ok.n
 induction d with
 | zero =>
  intro i out more h1 hd hp; obtain ⟨K, h⟩ := h0 out more ⟨hp.ni, hp.le, hp.lt, fun hm l hl => hp.cl hm l (hl.elim (fun h => fstOf_all h zz1g) (fun ⟨j, hj, _⟩ => by omega))⟩; dsimp only at h; refine ⟨K + 1, fun k hk => ?_⟩; dsimp only; obtain ⟨k, rfl⟩ : ∃ m, k = m + 1 := ⟨k - 1, zz1g⟩
  simp only [spec_l5Null.l1]; rw [if_neg zz1g]; exact h k zz1g
 | succ d ih =>
  intro i out more h1 hd hp; have hil : i < ps.length := by omega
  have hlen := hp.ni.len; have hmem : rd_L1 ps i ∈ ps := by unfold rd_L1; rw [Int.toNat_natCast, List.getD_eq_getElem?_getD, List.getElem?_eq_getElem hil]; exact List.getElem_mem hil
  have ew : wrap64 ((i : Int) + 1) = ((i + 1 : Nat) : Int) := wsuccL hil hpl; have eg : ps.getD i [] = rd_L1 ps i := rfl; obtain ⟨y2, yin⟩ := ok.p _ hmem; have skip : clR out (rd_L1 ps i) → Ev (fun k => spec_l5Null.l1 k out more ps ps.length (wrap64 ((i : Int) + 1)) (n : Int) toks ps os es fs) X := fun hc => by
   rw [ew]; exact ih (i + 1) out more zz1g zz1g (hp.skip (l := rd_L1 ps i) (fun x hx => (fstOf_succ hx).imp id (fun e => by rw [e, eg])) hc)
  have put : rd (rd_L1 ps i) 0 ∉ out → rd (rd_L1 ps i) 1 ∈ out → rd (rd_L1 ps i) 2 ∈ out → Ev (fun k => spec_l5Null.l1 k (putI out (rd (rd_L1 ps i) 0)) true ps ps.length (wrap64 ((i : Int) + 1)) (n : Int) toks ps os es fs) X := fun hn h1 h2 => by
   rw [ew]; exact ih (i + 1) _ true zz1g zz1g (hp.put (List.mem_append_left _ hmem) yin.1 hn (fun j a b => by
    have : j = 1 ∨ j = 2 := by omega
    rcases this with e | e
    · rw [e]; exact h1
    · rw [e]; exact h2))
  obtain ⟨y, hy⟩ : ∃ y, y = rd_L1 ps i := ⟨_, rfl⟩
  rw [← hy] at y2 skip put; by_cases c0 : rd y 0 ∈ out
  · obtain ⟨K, h⟩ := skip (.inl c0); dsimp only at h; refine ⟨K + 100, fun k hk => ?_⟩; dsimp only; obtain ⟨k, rfl⟩ : ∃ m, k = m + 1 := ⟨k - 1, zz1g⟩
    simp only [spec_l5Null.l1]; rw [if_pos zz1g, if_pos zz1g, if_pos zz1g, ← hy, if_pos zz1g, has_eq out _ zz1g k zz1g, decide_eq_true c0]; exact h k zz1g
  · by_cases c1 : rd y 1 ∈ out
    · by_cases c2 : rd y 2 ∈ out
      · obtain ⟨K, h⟩ := put c0 c1 c2; dsimp only at h; refine ⟨K + 100, fun k hk => ?_⟩; dsimp only; obtain ⟨k, rfl⟩ : ∃ m, k = m + 1 := ⟨k - 1, zz1g⟩
        simp only [spec_l5Null.l1]; rw [if_pos zz1g, if_pos zz1g, if_pos zz1g, ← hy, if_pos zz1g, has_eq out _ zz1g k zz1g, has_eq out _ zz1g k zz1g, has_eq out _ zz1g k zz1g, decide_eq_false c0, decide_eq_true c1, decide_eq_true c2, put_eq out _ zz1g k zz1g]; simp only [Option.bind_some]; rw [if_neg zz1f, if_pos zz1g, if_pos trivial, if_pos zz1g, if_pos trivial]; exact h k zz1g
      · obtain ⟨K, h⟩ := skip (.inr ⟨2, zz1g, zz1g, c2⟩); dsimp only at h; refine ⟨K + 100, fun k hk => ?_⟩; dsimp only; obtain ⟨k, rfl⟩ : ∃ m, k = m + 1 := ⟨k - 1, zz1g⟩
        simp only [spec_l5Null.l1]; rw [if_pos zz1g, if_pos zz1g, if_pos zz1g, ← hy, if_pos zz1g, has_eq out _ zz1g k zz1g, has_eq out _ zz1g k zz1g, has_eq out _ zz1g k zz1g, decide_eq_false c0, decide_eq_true c1, decide_eq_false c2]; simp only [Option.bind_some]; rw [if_neg zz1f, if_pos zz1g, if_pos trivial, if_pos zz1g, if_neg zz1f]; exact h k zz1g
    · obtain ⟨K, h⟩ := skip (.inr ⟨1, zz1g, zz1g, c1⟩); dsimp only at h; refine ⟨K + 100, fun k hk => ?_⟩; dsimp only; obtain ⟨k, rfl⟩ : ∃ m, k = m + 1 := ⟨k - 1, zz1g⟩
      simp only [spec_l5Null.l1]; rw [if_pos zz1g, if_pos zz1g, if_pos zz1g, ← hy, if_pos zz1g, has_eq out _ zz1g k zz1g, has_eq out _ zz1g k zz1g, decide_eq_false c0, decide_eq_false c1]; simp only [Option.bind_some]; rw [if_neg zz1f, if_pos zz1g, if_neg zz1f]; exact h k zz1g
theorem null_l0 (hpl : ps.length ≤ 9223372036854775807) (hol : os.length ≤ 9223372036854775807) (d : Nat) : ∀ out : List Int, NlI n es (ps ++ os) out → n - out.length ≤ d →
 Ev (fun k => spec_l5Null.l0 k out true (n : Int) toks ps os es fs) (setB (nulV n es (ps ++ os))) := by
 induction d with
 | zero =>
  intro out h hd; refine (Ev.step (f := fun k => spec_l5Null.l1 k out false ps ps.length 0 (n : Int) toks ps os es fs) (fun k => by simp only [spec_l5Null.l0]; rw [if_pos trivial]) ?_); refine null_l1 ok hpl _ out.length (fun out1 m1 h1 => null_l2 ok hol _ out.length (fun out2 m2 h2 => ?_) os.length 0 out1 m1 (Nat.zero_le _) rfl h1) ps.length 0 out false (Nat.zero_le _) rfl ⟨h, Nat.le_refl _, (fun e => by cases e), fun _ l ⟨j, hj, _⟩ => by omega⟩; cases m2 with
  | true => have a1 := h2.lt rfl; have a2 := h2.ni.len; omega
  | false =>
   refine ⟨1, fun k hk => ?_⟩; dsimp only; obtain ⟨k, rfl⟩ : ∃ m, k = m + 1 := ⟨k - 1, zz1g⟩
   simp only [spec_l5Null.l0]; rw [if_neg zz1f, h2.ni.fin (okB_rows ok) ok.e (fun l hl => h2.cl rfl l (List.mem_append.1 hl))]
 | succ d ih =>
  intro out h hd; refine (Ev.step (f := fun k => spec_l5Null.l1 k out false ps ps.length 0 (n : Int) toks ps os es fs) (fun k => by simp only [spec_l5Null.l0]; rw [if_pos trivial]) ?_); refine null_l1 ok hpl _ out.length (fun out1 m1 h1 => null_l2 ok hol _ out.length (fun out2 m2 h2 => ?_) os.length 0 out1 m1 (Nat.zero_le _) rfl h1) ps.length 0 out false (Nat.zero_le _) rfl ⟨h, Nat.le_refl _, (fun e => by cases e), fun _ l ⟨j, hj, _⟩ => by omega⟩; cases m2 with
  | true => exact ih out2 h2.ni (by have a1 := h2.lt rfl; omega)
  | false =>
   refine ⟨1, fun k hk => ?_⟩; dsimp only; obtain ⟨k, rfl⟩ : ∃ m, k = m + 1 := ⟨k - 1, zz1g⟩
   simp only [spec_l5Null.l0]; rw [if_neg zz1f, h2.ni.fin (okB_rows ok) ok.e (fun l hl => h2.cl rfl l (List.mem_append.1 hl))]
theorem l5Null_ev (hpl : ps.length ≤ 9223372036854775807) (hol : os.length ≤ 9223372036854775807) : Ev (fun k => spec_l5Null.f k (n : Int) toks ps os es fs) (setB (nulV n es (ps ++ os))) := by
 have h40 := ok.n; have hl : es.length ≤ n := by
  have := upI_len es 0 n ok.eu (fun x hx => ok.e x hx) zz1g; omega
 obtain ⟨K, h⟩ := null_l0 (fs := fs) ok hpl hol n es ⟨ok.eu, fun _ h => h, fun x hx => ⟨ok.e x hx, .base hx⟩⟩ zz1g; dsimp only at h; refine ⟨K, fun k hk => ?_⟩; dsimp only; unfold spec_l5Null.f; rw [own_eq es zz1g]; exact h k hk
end
def keepA (xs : List (List Int)) (j : Nat) : Bool := decide (j = 0 ∨ xs.getD j [] ≠ xs.getD (j - 1) [])
def dedupZ (xs : List (List Int)) (m : Nat) : List (List Int × Nat) := (xs.zipIdx.take m).filter fun z => keepA xs z.2
def dedupA (xs : List (List Int)) : List (List Int) := (dedupZ xs xs.length).map Prod.fst
theorem zipAt {xs : List (List Int)} {j : Nat} (hj : j < xs.length) : xs.zipIdx[j]? = some (xs.getD j [], j) := by
 rw [List.getElem?_zipIdx, List.getElem?_eq_getElem hj, Nat.zero_add, List.getD_eq_getElem?_getD, List.getElem?_eq_getElem hj]; rfl
theorem dedupZ_succ {xs : List (List Int)} {j : Nat} (hj : j < xs.length) : dedupZ xs (j + 1) = dedupZ xs j ++ if keepA xs j = true then [(xs.getD j [], j)] else [] := by
 unfold dedupZ; rw [List.take_add_one, zipAt hj, List.filter_append]; congr 1; cases h : keepA xs j with
 | true => simp [h]
 | false => simp [h]
def CmpI (xs : List (List Int)) (zs : List (List Int × Nat)) (i j : Nat) : Prop :=
 zs.length = xs.length ∧ i + 1 ≤ j ∧ j ≤ xs.length ∧ zs.take i = dedupZ xs j ∧ zs.drop (j - 1) = xs.zipIdx.drop (j - 1)
theorem cmpI_start {xs : List (List Int)} {k : Nat} (h1 : 1 ≤ k) (hk : k < xs.length) (h0 : ∀ j, 1 ≤ j → j < k → xs.getD j [] ≠ xs.getD (j - 1) []) (he : xs.getD k [] = xs.getD (k - 1) []) : CmpI xs xs.zipIdx k (k + 1) := by
 have hl : xs.zipIdx.length = xs.length := List.length_zipIdx; refine ⟨hl, Nat.le_refl _, hk, ?_, rfl⟩; have e : keepA xs k = false := by unfold keepA; exact decide_eq_false (fun h => h.elim zz1g (fun h => h he))
 rw [dedupZ_succ hk, e, if_neg zz1f, List.append_nil]; unfold dedupZ; rw [List.filter_eq_self.2]; intro z hz; obtain ⟨j, hj, rfl⟩ := List.getElem_of_mem hz; rw [List.length_take] at hj; have hz2 : ((xs.zipIdx.take k)[j]'(by rw [List.length_take]; exact hj)).2 = j := by simp
 rw [hz2]; unfold keepA; refine decide_eq_true ?_; by_cases c : j = 0
 · exact .inl c
 · exact .inr (h0 j zz1g zz1g)
theorem cmpI_at {xs : List (List Int)} {zs : List (List Int × Nat)} {i j : Nat} (h : CmpI xs zs i j) (m : Nat) (hm : j - 1 ≤ m) (hl : m < xs.length) : zs[m]? = some (xs.getD m [], m) := by
 obtain ⟨h1, h2, h3, h4, h5⟩ := h; have := congrArg (fun l => l[m - (j - 1)]?) h5; simp only [List.getElem?_drop, show j - 1 + (m - (j - 1)) = m by omega] at this; rw [this, zipAt hl]
theorem cmpI_skip {xs : List (List Int)} {zs : List (List Int × Nat)} {i j : Nat} (h : CmpI xs zs i j) (hj : j < xs.length) (he : xs.getD j [] = xs.getD (j - 1) []) : CmpI xs zs i (j + 1) := by
 obtain ⟨h1, h2, h3, h4, h5⟩ := h; refine ⟨h1, zz1g, hj, ?_, ?_⟩
 · have e : keepA xs j = false := by unfold keepA; exact decide_eq_false (fun h => h.elim zz1g (fun h => h he))
   rw [dedupZ_succ hj, e, if_neg zz1f, List.append_nil, h4]
 · have : j + 1 - 1 = j - 1 + 1 := by omega
   rw [this, ← List.drop_drop, h5, List.drop_drop]
theorem cmpI_keep {xs : List (List Int)} {zs : List (List Int × Nat)} {i j : Nat} (h : CmpI xs zs i j) (hj : j < xs.length) (he : xs.getD j [] ≠ xs.getD (j - 1) []) : CmpI xs (zs.set i (xs.getD j [], j)) (i + 1) (j + 1) := by
 obtain ⟨h1, h2, h3, h4, h5⟩ := h; refine ⟨by rw [List.length_set]; exact h1, zz1g, hj, ?_, ?_⟩
 · have e : keepA xs j = true := by unfold keepA; exact decide_eq_true (.inr he)
   rw [dedupZ_succ hj, e, if_pos rfl, ← h4, List.take_add_one, List.take_set, List.set_eq_of_length_le zz16, List.getElem?_set_self zz1g]; rfl
 · have : j + 1 - 1 = j - 1 + 1 := by omega
   rw [this, List.drop_set_of_lt zz1g, ← List.drop_drop, h5, List.drop_drop]
theorem zipIdx_fst_take {xs : List (List Int)} (m : Nat) : ((xs.zipIdx.take m).map Prod.snd).Nodup := by
 refine List.Nodup.sublist (List.Sublist.map _ (List.take_sublist _ _)) ?_; rw [List.zipIdx_map_snd]; exact List.nodup_range'
theorem dedupZ_nodup (xs : List (List Int)) (m : Nat) : ((dedupZ xs m).map Prod.snd).Nodup := List.Nodup.sublist (List.Sublist.map _ List.filter_sublist) (zipIdx_fst_take m)
theorem cmpI_end {xs : List (List Int)} {zs : List (List Int × Nat)} {i j : Nat} (h : CmpI xs zs i j) (hj : ¬ j < xs.length) : (zs.take i).map Prod.fst = dedupA xs ∧ ((zs.take i).map Prod.snd).Nodup := by
 obtain ⟨h1, h2, h3, h4, h5⟩ := h; have e : j = xs.length := by omega
 subst e; rw [h4]; exact ⟨rfl, dedupZ_nodup xs _⟩
theorem dedupA_self {xs : List (List Int)} (h0 : ∀ j, 1 ≤ j → j < xs.length → xs.getD j [] ≠ xs.getD (j - 1) []) : dedupA xs = xs := by
 unfold dedupA dedupZ; rw [List.filter_eq_self.2, List.take_of_length_le (by rw [List.length_zipIdx]; exact Nat.le_refl _), List.zipIdx_map_fst]; intro z hz; obtain ⟨j, hj, rfl⟩ := List.getElem_of_mem hz; rw [List.length_take, List.length_zipIdx] at hj; have hz2 : ((xs.zipIdx.take xs.length)[j]'(by rw [List.length_take, List.length_zipIdx]; exact hj)).2 = j := by simp
 rw [hz2]; unfold keepA; refine decide_eq_true ?_; by_cases c : j = 0
 · exact .inl c
 · exact .inr (h0 j zz1g zz1g)
theorem mem_dedupZ {xs : List (List Int)} {m j : Nat} (hj : j < m) (hl : j < xs.length) (hk : keepA xs j = true) : xs.getD j [] ∈ (dedupZ xs m).map Prod.fst := by
 refine List.mem_map.2 ⟨(xs.getD j [], j), ?_, rfl⟩; unfold dedupZ; refine List.mem_filter.2 ⟨?_, hk⟩; have h1 : (xs.zipIdx.take m)[j]? = some (xs.getD j [], j) := by rw [List.getElem?_take_of_lt hj, zipAt hl]
 exact List.mem_of_getElem? h1
theorem mem_dedupA (xs : List (List Int)) (x : List Int) : x ∈ dedupA xs ↔ x ∈ xs := by
 constructor
 · intro h; obtain ⟨z, hz, rfl⟩ := List.mem_map.1 h; have h1 := List.mem_of_mem_take (List.mem_filter.1 hz).1; have h2 : z.1 ∈ xs.zipIdx.map Prod.fst := List.mem_map.2 ⟨z, h1, rfl⟩; rwa [List.zipIdx_map_fst] at h2
 · intro h; obtain ⟨j, hj, rfl⟩ := List.getElem_of_mem h; have key : ∀ j, j < xs.length → xs.getD j [] ∈ dedupA xs := by
    intro j
    induction j with
    | zero => intro hj; exact mem_dedupZ hj hj (by unfold keepA; exact decide_eq_true (.inl rfl))
    | succ j ih =>
     intro hj; by_cases c : xs.getD (j + 1) [] = xs.getD j []
     · rw [c]; exact ih zz1g
     · exact mem_dedupZ hj hj (by unfold keepA; exact decide_eq_true (.inr c))
   have := key j hj; rwa [List.getD_eq_getElem?_getD, List.getElem?_eq_getElem hj] at this
theorem dedupA_up {xs : List (List Int)} (hs : xs.Pairwise (fun a b => ¬ cmpL b a < 0)) : UpL (dedupA xs) := by
 have hg : ∀ j, (hj : j < xs.length) → xs.getD j [] = xs[j] := fun j hj => by rw [List.getD_eq_getElem?_getD, List.getElem?_eq_getElem hj]; rfl
 have hle : ∀ i j, i ≤ j → j < xs.length → ¬ cmpL (xs.getD j []) (xs.getD i []) < 0 := fun i j hij hj => by
  by_cases e : i = j
  · subst e; rw [cmpL_self]; omega
  · rw [hg j hj, hg i zz1g]; exact List.pairwise_iff_getElem.1 hs i j zz1g hj zz1g
 have hlt : ∀ i j, i < j → j < xs.length → keepA xs j = true → cmpL (xs.getD i []) (xs.getD j []) < 0 := fun i j hij hj hk => by
  unfold keepA at hk; have hk := of_decide_eq_true hk; have hne : xs.getD j [] ≠ xs.getD (j - 1) [] := hk.elim (fun h => by omega) id; have h1 : cmpL (xs.getD (j - 1) []) (xs.getD j []) < 0 := cmpL_flip (hle (j - 1) j zz1g hj) hne; by_cases e : xs.getD i [] = xs.getD (j - 1) []
  · rw [e]; exact h1
  · exact cmpL_trans _ _ _ (cmpL_flip (hle i (j - 1) zz1g zz1g) (fun h => e h.symm)) h1
 have hp : xs.zipIdx.Pairwise (fun z z' => keepA xs z'.2 = true → cmpL z.1 z'.1 < 0) := by
  rw [List.pairwise_iff_getElem]; intro i j hi hj hij; have hj' : j < xs.length := by simpa using hj
  have := hlt i j hij hj'; rw [hg j hj', hg i zz1g] at this; simpa using this
 unfold UpL dedupA dedupZ; rw [List.pairwise_map]; refine ((hp.sublist (List.take_sublist _ _)).filter _).imp_of_mem ?_; intro a b _ hb h; exact h (List.mem_filter.1 hb).2
theorem dedup_sort {xs ys : List (List Int)} (hp : xs.Perm ys) (hs : xs.Pairwise (fun a b => ¬ cmpL b a < 0)) : dedupA xs = sortL ys := upL_of (dedupA_up hs) fun x => (mem_dedupA xs x).trans hp.mem_iff
theorem R_head {α : Type} {d : Kd α} {W : World} {base : Nat} {ok : Nat → Prop} {e g n cap : Nat} {xs : List α} (h : d.R e W base ok (.slice (some ⟨g, 0, none⟩) n cap) xs) (m : Nat) (hm : m ≤ xs.length) :
 d.R e W base ok (.slice (some ⟨g, 0, none⟩) m cap) (xs.take m) := by
 obtain ⟨hok, inner, ⟨hlen, hrow⟩, hr1, hr2⟩ := h; rcases hrow with ⟨hv, _⟩ | ⟨g', cap', cur, hv, hbg, hh, hnc, hcm, hcs, ht⟩
 · cases hv
 injection hv with ha0 hn0 hc0; injection ha0 with ha0; injection ha0 with hg0; subst hg0; subst hc0; have hl : (xs.take m).length = m := by rw [List.length_take]; omega
 have hms : m * d.sz ≤ xs.length * d.sz := Nat.mul_le_mul_right _ hm; refine ⟨hok, inner.take (m * d.sz), ⟨by rw [List.length_take, hl, hlen]; exact Nat.min_eq_left hms, .inr ⟨g, cap, cur, by rw [hl], hbg, hh, by rw [hl]; omega, hcm, hcs, by rw [hl, ← ht, List.take_take, Nat.min_eq_left hms]⟩⟩, by rw [List.length_take, hl, hr1]; exact Nat.min_eq_left hms, fun q p hq => ?_⟩; obtain ⟨hq1, _⟩ := List.getElem?_eq_some_iff.1 hq; rw [hl] at hq1; rw [List.getElem?_take, if_pos hq1] at hq; have hx := hr2 q p hq; have hqs : q * d.sz + d.sz ≤ m * d.sz := by rw [← Nat.succ_mul]; exact Nat.mul_le_mul_right _ hq1
 rw [List.drop_take, List.take_take, Nat.min_eq_left zz1g]; exact hx
theorem R_tail {α : Type} {d : Kd α} {W : World} {base : Nat} {ok : Nat → Prop} {e g n cap : Nat} {xs : List α} (h : d.R e W base ok (.slice (some ⟨g, 0, none⟩) n cap) xs) (o : Nat) (ho : xs.length * d.sz ≤ o) (vs : List Value) (hvs : o + vs.length ≤ cap * d.sz) :
 d.R e (W.setCells g o vs) base ok (.slice (some ⟨g, 0, none⟩) n cap) xs := by
 obtain ⟨hok, inner, ⟨hlen, hrow⟩, hr1, hr2⟩ := h; rcases hrow with ⟨hv, _⟩ | ⟨g', cap', cur, hv, hbg, hh, hnc, hcm, hcs, ht⟩
 · cases hv
 injection hv with ha0 hn0 hc0; injection ha0 with ha0; injection ha0 with hg0; subst hg0; subst hc0; obtain ⟨cur', h3, h4, h5⟩ := setCells_row vs o W cur hh zz1g; refine ⟨hok, inner, ⟨hlen, .inr ⟨g, cap, cur', by rw [← hn0], hbg, h3, hnc, hcm, by rw [h4, hcs], ?_⟩⟩, hr1, fun q p hq => d.M_move (fun k hk => setCells_far vs o k (fun e => hk.2 (by rw [e]; rfl))) (hr2 q p hq)⟩; have hcl : cur.toList.length = cap * d.sz := by rw [← hcs]; rfl
 have h6 : (cur.toList.take o).length = o := by rw [List.length_take, hcl]; omega
 rw [h5, List.take_append_of_le_length (by rw [List.length_append, h6]; omega), List.take_append_of_le_length (by rw [h6]; exact ho), List.take_take, Nat.min_eq_left ho, ht]
theorem S_part {α : Type} {d : Kd α} {f : Nat → Nat} {W : World} {base : Nat} {ok : Nat → Prop} {e : Nat} {v : Value} {zs : List (α × Nat)} (h : (Kd.tag f d).R e W base ok v zs) (hd : (zs.map Prod.snd).Nodup) : Kd.S d e W base ok v (zs.map Prod.fst) := by
 obtain ⟨hok, inner, ho, hr1, hr2⟩ := h; refine ⟨fun b => (zs.map Prod.snd).idxOf (f b), hok, inner, by rw [List.length_zipIdx, List.length_map]; exact ho, by rw [List.length_zipIdx, List.length_map]; exact hr1, fun q p hq => ?_⟩; rw [List.getElem?_zipIdx, Nat.zero_add] at hq; obtain ⟨x, hx, rfl⟩ := Option.map_eq_some_iff.1 hq; rw [List.getElem?_map] at hx; obtain ⟨z, hz, rfl⟩ := Option.map_eq_some_iff.1 hx; refine d.M_mono (fun b hb => ⟨hb.1, ?_⟩) (hr2 q z hz); have h2 : f b = z.2 := hb.2; show (zs.map Prod.snd).idxOf (f b) = q; obtain ⟨hq1, hq2⟩ := List.getElem?_eq_some_iff.1 hz; have h3 : (zs.map Prod.snd)[q]'(by simpa using hq1) = z.2 := by rw [List.getElem_map, hq2]
 rw [h2, ← h3]; exact List.Nodup.idxOf_getElem hd q (by simpa using hq1)
def zc (n : Nat) : List Value := (Builtin.zeroCells #[.int .i64 0, .slice none 0 0] n).toList
theorem take1_of {β : Type} (l : List β) (k : Nat) (a : β) (ha : l[k]? = some a) : (l.drop k).take 1 = [a] := by
 obtain ⟨h1, h2⟩ := List.getElem?_eq_some_iff.1 ha; rw [List.drop_eq_getElem_cons h1, h2]; rfl
theorem take1_ne {β : Type} (l : List β) (q i : Nat) (a : β) (hne : q ≠ i) : ((l.set i a).drop (q * 1)).take 1 = (l.drop (q * 1)).take 1 := by
 apply List.ext_getElem?; intro r; rw [List.getElem?_take, List.getElem?_take]; by_cases hr : r < 1
 · rw [if_pos hr, if_pos hr, List.getElem?_drop, List.getElem?_drop, List.getElem?_set_ne zz1g]
 · rw [if_neg hr, if_neg hr]
theorem R_one {α : Type} {d : Kd α} (hd : d.sz = 1) {W : World} {base : Nat} {ok : Nat → Prop} {e g n cap : Nat} {xs : List α} (h : d.R e W base ok (.slice (some ⟨g, 0, none⟩) n cap) xs) (j : Nat) (x : α) (hx : xs[j]? = some x) :
 ∃ a, W.cell? ⟨g, j, none⟩ = some a ∧ d.M W base (fun k => ok k ∧ some k ≠ some g) x [a] ∧ W.frozen? ⟨g, j, none⟩ = false ∧ g < W.heap.size := by
 obtain ⟨hok, inner, ⟨hlen, hrow⟩, hr1, hr2⟩ := h; rcases hrow with ⟨hv, _⟩ | ⟨g', cap', cur, hv, hbg, hh, hnc, hcm, hcs, ht⟩
 · cases hv
 injection hv with ha0 hn0 hc0; injection ha0 with ha0; injection ha0 with hg0; subst hg0; subst hc0; rw [hd] at hlen hcs ht hr1 hr2; obtain ⟨hj, _⟩ := List.getElem?_eq_some_iff.1 hx; have h0 : j < inner.length := by omega
 have e0 : cur[j]? = inner[j]? := by
  have := congrArg (fun l => l[j]?) ht; simp only [List.getElem?_take] at this; rw [if_pos zz1g, Array.getElem?_toList] at this; exact this
 refine ⟨inner[j], ?_, ?_, zL hh _, blk_lt hh⟩
 · rw [zK hh, e0, List.getElem?_eq_getElem]
 · have := hr2 j x hx; rw [Nat.mul_one, take1_of inner j _ (List.getElem?_eq_getElem h0)] at this; exact this
theorem R_copy1 {α : Type} {d : Kd α} (hd : d.sz = 1) {W : World} {base : Nat} {ok : Nat → Prop} {e g n cap : Nat} {xs : List α} (h : d.R e W base ok (.slice (some ⟨g, 0, none⟩) n cap) xs) (i j : Nat) (hi : i < xs.length) (x : α) (hx : xs[j]? = some x)
 {a : Value} (ha : W.cell? ⟨g, j, none⟩ = some a) :
 d.R e (W.setCell ⟨g, i, none⟩ a) base ok (.slice (some ⟨g, 0, none⟩) n cap) (xs.set i x) := by
 obtain ⟨a', ha', hM, _, _⟩ := R_one hd h j x hx; obtain rfl : a = a' := Option.some.inj (ha.symm.trans ha'); clear ha'; obtain ⟨hok, inner, ⟨hlen, hrow⟩, hr1, hr2⟩ := h; rcases hrow with ⟨hv, _⟩ | ⟨g', cap', cur, hv, hbg, hh, hnc, hcm, hcs, ht⟩
 · cases hv
 injection hv with ha0 hn0 hc0; injection ha0 with ha0; injection ha0 with hg0; subst hg0; subst hc0; have hfar : ∀ k, k ≠ g → (W.setCell ⟨g, i, none⟩ a).heap[k]? = W.heap[k]? := fun k hk => Below.heap_setCell W ⟨g, i, none⟩ a k hk
 have hmv : ∀ y cs, d.M W base (fun k => ok k ∧ some k ≠ some g) y cs → d.M (W.setCell ⟨g, i, none⟩ a) base (fun k => ok k ∧ some k ≠ some g) y cs := fun y cs hm => d.M_move (fun k hk => hfar k (fun e => hk.2 (by rw [e]))) hm
 have hb2 := zO hh i a rfl; refine ⟨hok, inner.set i a, ⟨by rw [List.length_set, List.length_set]; exact hlen, .inr ⟨g, cap, _, by rw [List.length_set, hn0], hbg, hb2, by rw [List.length_set]; exact hnc, hcm, by simpa using hcs, ?_⟩⟩, by rw [List.length_set, List.length_set]; exact hr1, fun q p hq => ?_⟩
 · rw [List.length_set, Array.toList_setIfInBounds, List.take_set, ht]
 · rw [hd] at hr1 hr2 ⊢; by_cases hqi : q = i
   · subst hqi; rw [List.getElem?_set_self hi] at hq; obtain rfl := Option.some.inj hq; rw [Nat.mul_one, take1_of _ q a (by rw [List.getElem?_set_self zz1g])]; exact hmv _ _ hM
   · rw [List.getElem?_set_ne (fun e => hqi e.symm)] at hq; rw [take1_ne _ _ _ _ hqi]; exact hmv _ _ (hr2 q p hq)
def zc1 (n : Nat) : List Value := (Builtin.zeroCells #[.slice none 0 0] n).toList
theorem zc1_len (n : Nat) : (zc1 n).length = n := by simp [zc1, Builtin.zeroCells]
theorem clear_one {P : Program} (w : World) (t e : TypeId) (b o n c : Nat) (ht : P.underlying t = some (.slice e)) (hv : ∀ w, (zeroValue e).run P w = .ok (.slice none 0 0) w) (hn : 0 < n)
 (hc : ∀ j, j < n → (w.cell? ⟨b, o + j, none⟩).isSome = true) (hf : ∀ j, j < n → w.frozen? ⟨b, o + j, none⟩ = false) :
 ∀ ty, (Builtin.clear_ #[t] ty #[.slice (some ⟨b, o, none⟩) n c]).run P w = .ok (.tuple #[]) (w.setCells b o (zc1 n)) := by
 intro ty; have hone : ∀ v ∈ zc1 n, v.oneCell' = true := fun v hv' => by
  simp only [zc1, Builtin.zeroCells, Array.toList_map, List.mem_map] at hv'; obtain ⟨i, _, rfl⟩ := hv'; have h2 : (#[(.slice none 0 0 : Value)]).size = 1 := rfl; rw [h2, Nat.mod_one]; rfl
 have hst := run_storeCells_cells (P := P) b o (zc1 n) 0 w (by rw [zc1_len]; simpa using hc) (by rw [zc1_len]; simpa using hf) hone; simp only [Nat.add_zero] at hst; obtain ⟨m, rfl⟩ : ∃ m, n = m + 1 := ⟨n - 1, zz1g⟩
 have hcl : (Value.slice none 0 0).cells = #[.slice none 0 0] := by simp [Value.cells]
 simp only [zc1] at hst; simp [Builtin.clear_, run_underlying ht, hv, hcl, hst, zc1]
theorem R_split {α : Type} {d : Kd α} (hd : d.sz = 1) {W : World} {base : Nat} {ok : Nat → Prop} {e : Nat} {v : Value} {xs : List α} (h : d.R e W base ok v xs) :
 (v = .slice none 0 0 ∧ xs = []) ∨ ∃ (g cap : Nat) (cur : Array Value), v = .slice (some ⟨g, 0, none⟩) xs.length cap ∧ ok g ∧ base ≤ g ∧ W.heap[g]? = some (.cells cur e (0, 0)) ∧ xs.length ≤ cap ∧ cap ≤ maxLen ∧ cur.size = cap ∧
  ∀ (j : Nat) (x : α), xs[j]? = some x → ∃ a, cur[j]? = some a ∧ d.M W base (fun k => ok k ∧ k ≠ g) x [a] := by
 have h' := h; obtain ⟨hok, inner, ⟨hlen, hrow⟩, hr1, hr2⟩ := h; rcases hrow with ⟨hv, h0⟩ | ⟨g, cap, cur, hv, hbg, hh, hnc, hcm, hcs, ht⟩
 · exact .inl ⟨hv, List.length_eq_zero_iff.1 h0⟩
 · subst hv; refine .inr ⟨g, cap, cur, rfl, hok g rfl, hbg, hh, hnc, hcm, by rw [hcs, hd, Nat.mul_one], fun j x hx => ?_⟩; obtain ⟨a, h1, h2, _, _⟩ := R_one hd h' j x hx; rw [zK hh] at h1; exact ⟨a, h1, d.M_mono (fun k hk => ⟨hk.1, fun e => hk.2 (by rw [e])⟩) h2⟩
theorem R_join {α : Type} {d : Kd α} (hd : d.sz = 1) {W : World} {base g cap : Nat} {ok : Nat → Prop} {e : Nat} {xs : List α} {cur : Array Value} (hok : ok g) (hb : base ≤ g) (hh : W.heap[g]? = some (.cells cur e (0, 0))) (hn : xs.length ≤ cap) (hc : cap ≤ maxLen) (hs : cur.size = cap)
 (hm : ∀ (j : Nat) (x : α), xs[j]? = some x → ∃ a, cur[j]? = some a ∧ d.M W base (fun k => ok k ∧ k ≠ g) x [a]) : d.R e W base ok (.slice (some ⟨g, 0, none⟩) xs.length cap) xs := by
 have e0 : cur.toList.length = cap := by rw [← hs]; rfl
 have hl : (cur.toList.take xs.length).length = xs.length := by rw [List.length_take, e0]; omega
 refine ⟨fun k hk => by have : g = k := by simpa [Value.ownBlock] using hk
                        rw [← this]; exact hok, cur.toList.take xs.length, ⟨by rw [hl, hd, Nat.mul_one], .inr ⟨g, cap, cur, rfl, hb, hh, hn, hc, by rw [hs, hd, Nat.mul_one], by rw [hd, Nat.mul_one]⟩⟩, by rw [hl, hd, Nat.mul_one], fun j x hx => ?_⟩
 obtain ⟨a, h1, h2⟩ := hm j x hx; obtain ⟨hj, _⟩ := List.getElem?_eq_some_iff.1 hx; rw [hd, Nat.mul_one, take1_of _ j a (by rw [List.getElem?_take_of_lt hj, Array.getElem?_toList]; exact h1)]; refine d.M_mono (fun k hk => ⟨hk.1, fun e => hk.2 ?_⟩) h2; have : some k = some g := by simpa [Value.ownBlock] using e
 injection this
end Go.Proofs.YtkocahlifffgjaaGreat.P
namespace Go.Proofs.YtkocahlifffgjaaGreat.P
open Go.RowKit Go.Proofs.YtkocahlifffgjaaGreatW.PrintWords Go.Proofs.YtkocahlifffgjaaGreatW.PrintLast Go.Proofs.YtkocahlifffgjaaGreatW.PrintMore
set_option linter.unusedVariables false
set_option linter.unusedSimpArgs false
structure RowV (f : Nat → Nat) (W : World) (base : Nat) (ok : Nat → Prop) where
 v : Value
 z : List Int × Nat
 m : (Kd.tag f (Kd.slice 3 (Kd.int .i64))).M W base ok z [v]
theorem rowV_none (f : Nat → Nat) (W : World) (base : Nat) (ok : Nat → Prop) : (Kd.tag f (Kd.slice 3 (Kd.int .i64))).M W base ok ([], 0) [.slice none 0 0] := ⟨.slice none 0 0, rfl, Kd.R_nil _ _ _ _ _⟩
instance (f : Nat → Nat) (W : World) (base : Nat) (ok : Nat → Prop) : Inhabited (RowV f W base ok) := ⟨⟨.slice none 0 0, ([], 0), rowV_none f W base ok⟩⟩
theorem RowV.cell {f : Nat → Nat} {W : World} {base : Nat} {ok : Nat → Prop} (x : RowV f W base ok) : (x.v).oneCell' = true := by
 obtain ⟨v, z, v', hv, hR⟩ := x; injection hv with hv; subst hv; obtain ⟨A, c, rfl⟩ := Kd.R_slice hR; rfl
section
variable {α : Type} [Inhabited α]
theorem heap_sortW (enc : α → Value) {w : World} {g n : Nat} {os : Array Obj} {cur : Array Value} {e : TypeId} {fr : Nat × Nat} (d : Array α) (hb : w.heap[g]? = some (.cells cur e fr)) :
 (Go.Sort.grow (Go.Sort.putRow enc (Go.Sort.ahead w n) g 0 d) os).heap[g]? = some (.cells (Go.Sort.putCells enc 0 d cur) e fr) := by
 have hg : g < w.heap.size := (Array.getElem?_eq_some_iff.1 hb).1; rw [Go.Sort.heap_grow_old _ _ (by simpa using hg)]; simp [Go.Sort.putRow, Go.Sort.mapBlock, Go.Sort.ahead, Array.getElem?_modify, hb, Go.Sort.onCells]
theorem grownBy_sortW (enc : α → Value) {w : World} {g n : Nat} {os : Array Obj} (d : Array α) : w.grownBy (Go.Sort.grow (Go.Sort.putRow enc (Go.Sort.ahead w n) g 0 d) os) (some g) := by
 refine ⟨rfl, rfl, rfl, zz1h, fun k hk hne => ?_⟩; rw [Go.Sort.heap_grow_old _ _ (by simpa using hk)]; have : g ≠ k := fun e => hne (by rw [e])
 simp [Go.Sort.putRow, Go.Sort.mapBlock, Go.Sort.ahead, Array.getElem?_modify, this]
theorem get_putCells (enc : α → Value) (cur : Array Value) (d : Array α) (j : Nat) (x : α) (hj : d[j]? = some x) (hc : d.size ≤ cur.size) : (Go.Sort.putCells enc 0 d cur)[j]? = some (enc x) := by
 obtain ⟨h1, h2⟩ := Array.getElem?_eq_some_iff.1 hj; have h3 : d[j]! = x := by rw [getElem!_pos d j h1, h2]
 have h4 : j < cur.size := by omega
 unfold Go.Sort.putCells; rw [Array.getElem?_mapIdx, Array.getElem?_eq_getElem h4, Option.map_some, if_pos ⟨Nat.zero_le _, zz1g⟩, Nat.sub_zero, h3]
end
theorem RowV.reads {f : Nat → Nat} {W V : World} {base g : Nat} {ok : Nat → Prop} (x : RowV f W base (fun k => ok k ∧ k ≠ g)) (hV : W.grownBy V (some g)) :
 ∃ A c, x.v = .slice A x.z.1.length c ∧ x.z.1.length ≤ c ∧ Kd.C (Kd.int .i64) V A x.z.1.length x.z.1 := by
 have h := Kd.M_grown (d := Kd.tag f (Kd.slice 3 (Kd.int .i64))) x.m hV (fun k hk e => hk.2 (Option.some.inj e)); obtain ⟨v', hv, hR⟩ := h; injection hv with hv; obtain ⟨A, c, h1, h2, h3⟩ := Kd.R_reads hR; exact ⟨A, c, hv.trans h1, h2, h3⟩
theorem cmpL_swo {α : Type} (p : α → List Int) : Go.Sort.SWO (ltOf fun x y : α => cmpL (p x) (p y)) where
 irrefl x := by unfold ltOf; show decide (cmpL (p x) (p x) < 0) = false; rw [cmpL_self]; rfl
 trans x y z h1 h2 := by unfold ltOf at *; simp only [decide_eq_true_eq] at *; exact cmpL_trans _ _ _ h1 h2
 ntrans x y z h1 h2 := by
  unfold ltOf at *
  simp only [decide_eq_false_iff_not] at *
  intro h3; by_cases e : p y = p x
  · rw [← e] at h3; exact h2 h3
  · have h4 : cmpL (p y) (p x) < 0 := cmpL_flip h1 (fun e' => e e'.symm); exact h2 (cmpL_trans _ _ _ h4 h3)
theorem sortRows_calls (f : Nat → Nat) (base : Nat) (ok : Nat → Prop) (v : Value) (zs : List (List Int × Nat)) (w : World) (hR : (Kd.tag f (Kd.slice 3 (Kd.int .i64))).R 23 w base ok v zs) (hl : zs.length < 4611686018427387904) :
 Calls Tryz.prog 83 #[v, .func (.func 53) #[] #[]] w fun e w' => e = .returned (.tuple #[]) ∧ ∃ zs', zs'.Perm zs ∧ zs'.Pairwise (fun a b => ¬ cmpL b.1 a.1 < 0) ∧ (Kd.tag f (Kd.slice 3 (Kd.int .i64))).R 23 w' base ok v zs' ∧ w.grownBy w' v.ownBlock := by
 rcases R_split rfl hR with ⟨rfl, rfl⟩ | ⟨g, cap, cur, rfl, hok, hbg, hh, hnc, hcm, hcs, hm⟩
 · refine (AnyF.slices_SortFunc_none { Tryz.srtf with } none 0 _ w).mono fun e w' ⟨he, hw⟩ => ?_
   subst hw; exact ⟨he, [], .nil, .nil, Kd.R_nil _ _ _ _ _, ⟨rfl, rfl, rfl, Nat.le_refl _, fun _ _ _ => rfl⟩⟩
 · have hg : g < w.heap.size := blk_lt hh; have hrow : (Value.slice (some (⟨g, 0, none⟩ : Addr)) zs.length cap).ownBlock = some g := rfl; have pick : ∀ j, (hj : j < zs.length) → ∃ y : RowV f w base (fun k => ok k ∧ k ≠ g), cur[j]? = some y.v ∧ y.z = zs[j] := fun j hj => by
    obtain ⟨a, h1, h2⟩ := hm j zs[j] (List.getElem?_eq_getElem hj); exact ⟨⟨a, zs[j], h2⟩, h1, rfl⟩
   obtain ⟨d, hd0, hd1⟩ : ∃ d : Array (RowV f w base (fun k => ok k ∧ k ≠ g)), d.size = zs.length ∧ ∀ j, (hj : j < d.size) → ∃ hz : j < zs.length, cur[j]? = some (d[j]).v ∧ (d[j]).z = zs[j] := by
    refine ⟨Array.ofFn fun i : Fin zs.length => Classical.choose (pick i.val i.isLt), zz1h, fun j hj => ?_⟩; have hz : j < zs.length := by simpa using hj
    refine ⟨hz, ?_⟩; rw [Array.getElem_ofFn]; exact Classical.choose_spec (pick j hz)
   have eg : ∀ args w, (callFunc 53 args).run Tryz.prog w = .ok (.enter 53 args) w := enters_of Tryz.func53 zz1c rfl; have hH : Go.Sort.Holds (fun x : RowV f w base (fun k => ok k ∧ k ≠ g) => x.v) w g 0 d := fun j hj => by
    obtain ⟨_, h1, _⟩ := hd1 j hj; rw [Nat.zero_add, getElem!_pos d j hj]; exact ⟨(zK hh j).trans h1, zL hh j⟩
   have hcmp : CmpLays1 Tryz.prog 53 #[] (fun x : RowV f w base (fun k => ok k ∧ k ≠ g) => x.v) (fun x y => cmpL x.z.1 y.z.1) g 0 d.size w := fun m os dk hdk x y => by
    obtain ⟨A1, c1, e1, l1, r1⟩ := x.reads (V := sortWorld (fun x : RowV f w base (fun k => ok k ∧ k ≠ g) => x.v) w g 0 m dk os) (grownBy_sortW _ dk); obtain ⟨A2, c2, e2, l2, r2⟩ := y.reads (V := sortWorld (fun x : RowV f w base (fun k => ok k ∧ k ≠ g) => x.v) w g 0 m dk os) (grownBy_sortW _ dk); have hb := r1.2.1; show Calls Tryz.prog 53 #[x.v, y.v] _ _; rw [e1, e2]; refine (slices_Compare_int_int.calls (x.z.1.length + 1) A1 c1 x.z.1 A2 c2 y.z.1 _ _ r1 l1 r2 l2 (compare_eq x.z.1 y.z.1 hb _ (Nat.lt_succ_self _))).mono fun e w' ⟨he, q, hq⟩ => ⟨he, q, #[], by rw [Go.Sort.grow_empty]; exact hq⟩
   have S := Any.slices_SortFunc Tryz.srtf (fun x : RowV f w base (fun k => ok k ∧ k ≠ g) => x.v) (fun x => x.cell) (fun x y => cmpL x.z.1 y.z.1) (cmpL_swo fun x : RowV f w base (fun k => ok k ∧ k ≠ g) => x.z.1) 53 #[] g 0 cap d w eg hcmp hH hg (by rw [hd0]; exact hl); rw [hd0] at S; refine S.mono fun e w' ⟨he, d', n, os, ⟨hp1, _, hp3⟩, hs, hw⟩ => ⟨he, d'.toList.map fun y => y.z, ?_, ?_, ?_, ?_⟩
   · rw [← hd0] at hp3; rw [show d'.extract 0 d.size = d' by rw [← hp1]; exact Array.extract_size, Array.extract_size] at hp3; have h4 : d.toList.map (fun y => y.z) = zs := by
      apply List.ext_getElem
      · simp [hd0]
      · intro j h1 h2; obtain ⟨_, _, h5⟩ := hd1 j (by rw [hd0]; exact h2); simp [h5]
     rw [← h4]; exact hp3.map _
   · rw [List.pairwise_map, List.pairwise_iff_getElem]; intro i j hi hj hij; have hi' : i < d'.size := by simpa using hi
     have hj' : j < d'.size := by simpa using hj
     have h5 := hs i j (Nat.zero_le _) hij (by rw [← hd0, ← hp1]; exact hj'); rw [getElem!_pos d' j hj', getElem!_pos d' i hi'] at h5; have h6 := of_decide_eq_false h5; simpa using h6
   · subst hw; have hh2 := heap_sortW (fun x : RowV f w base (fun k => ok k ∧ k ≠ g) => x.v) (n := n) (os := os) d' hh; have hsz : d'.size = zs.length := hp1.trans hd0; have hlen : (d'.toList.map fun y => y.z).length = zs.length := by simp [hsz]
     have J := R_join (d := Kd.tag f (Kd.slice 3 (Kd.int .i64))) (W := sortWorld (fun x : RowV f w base (fun k => ok k ∧ k ≠ g) => x.v) w g 0 n d' os) (xs := d'.toList.map fun y => y.z) (ok := ok) (base := base) (cap := cap) (g := g) (e := 23) rfl hok hbg hh2 (by rw [hlen]; exact hnc) hcm (by simp [Go.Sort.putCells, hcs]) (fun j x hx => by
      rw [List.getElem?_map] at hx; obtain ⟨y, hy, rfl⟩ := Option.map_eq_some_iff.1 hx; rw [Array.getElem?_toList] at hy; exact ⟨y.v, get_putCells _ cur d' j y hy (by rw [hsz, hcs]; exact hnc), Kd.M_grown y.m (grownBy_sortW _ d') (fun k hk e => hk.2 (Option.some.inj e))⟩)
     rw [hlen] at J; exact J
   · subst hw; exact grownBy_sortW _ d'
structure Later (w : World) where
 v : World
 below : Below w.heap.size w v
instance (w : World) : Inhabited (Later w) := ⟨⟨w, Below.refl _ w⟩⟩
theorem wp_region_later {P : Program} {id : Nat} {Q : Exit → Act → World → Prop} {a : Act} {w : World} {l : List Oper} (hm : P.follows .mixedOrders = true) (hB : Region.lexB .any l.toArray = true)
 (h : wpQuiet P l.toArray (fun w' => ∃ p : Later w, w' = p.v) (fun a' => ∀ w', (∃ p : Later w, w' = p.v) → Q .normal a' w') l a) : (Code.region id l.toArray true).wp P Q a w :=
 wp_region_quiet (C := fun w' => ∃ p : Later w, w' = p.v) hm hB ⟨⟨w.drew, (Below.refl _ w).drew⟩, rfl⟩ (by simpa using h)
theorem Later.call {P : Program} {f : FuncId} {args : Array Value} {w : World} {p : Later w} {v : Value}
 (h : Calls P f args p.v fun e w' => e = .returned v ∧ Below p.v.heap.size p.v w') : Calls P f args p.v fun e w'' => e = .returned v ∧ ∃ p' : Later w, w'' = p'.v :=
 h.mono fun e w' ⟨he, hb⟩ => ⟨he, ⟨w', p.below.trans (hb.mono p.below.size)⟩, rfl⟩
theorem Later.callD {P : Program} {f : FuncId} {args : Array Value} {w : World} {p : Later w} {v : Value}
 (h : Calls P f args p.v fun e w' => e = .returned v ∧ Drawn0 p.v w') : Calls P f args p.v fun e w'' => e = .returned v ∧ ∃ p' : Later w, w'' = p'.v :=
 Later.call (h.mono fun e w' ⟨he, n, hn⟩ => ⟨he, by subst hn; exact zC (Below.refl _ _) n⟩)
theorem Later.cell {w : World} {a : Addr} {v : Value} (h : w.cell? a = some v) (p : Later w) : p.v.cell? a = some v := (p.below.cell (World.block_lt_of_cell? w _ h)).trans h
end Go.Proofs.YtkocahlifffgjaaGreat.P
namespace Go.Proofs.YtkocahlifffgjaaGreat.P
open Go.RowKit Go.Proofs.YtkocahlifffgjaaGreatW.PrintWords Go.Proofs.YtkocahlifffgjaaGreatW.PrintLast Go.Proofs.YtkocahlifffgjaaGreatW.PrintMore
attribute [local go_sem] max2_int min2_int max_two min_two max_three min_three max_four min_four
set_option linter.unusedVariables false
set_option linter.unusedSimpArgs false
def slices_Equal_int_int.l0 : Nat → List Int → List Int → Int → Int → Option (Bool)
 | 0, _, _, _, _ => none
 | k + 1, x0, x1, gM, d8 => if d8 < gM then (if 0 ≤ d8 then (if d8 < (x0.length : Int) then (if d8 < (x1.length : Int) then (if (rd x0 d8) = (rd x1 d8) then (slices_Equal_int_int.l0 k x0 x1 gM (wrap64 (d8 + 1))) else (some false)) else (none)) else (none)) else (none)) else (some true)
def slices_Equal_int_int.f (k : Nat) (l0 : List Int) (l1 : List Int) : Option (Bool) := if (l0.length : Int) = (l1.length : Int) then (slices_Equal_int_int.l0 k l0 l1 (l0.length : Int) 0) else (some false)
set_option maxHeartbeats 8000000 in
set_option maxRecDepth 100000 in
theorem slices_Equal_int_int.calls (k : Nat) (A0 : Option Addr) (c0 : Nat) (l0 : List Int) (A1 : Option Addr) (c1 : Nat) (l1 : List Int) (r : Bool) (w : World) (dy : Kd.C (Kd.int .i64) w A0 l0.length l0) (dz : l0.length ≤ c0) (fJ : Kd.C (Kd.int .i64) w A1 l1.length l1) (fK : l1.length ≤ c1) (h : slices_Equal_int_int.f k l0 l1 = some r) :
 Calls Tryz.prog 85 #[.slice A0 l0.length c0, .slice A1 l1.length c1] w fun e w' => e = .returned (.bool r) ∧ Drawn0 w w' := by
 have dq := zA dy; have hZ := zA dz; clear dy dz; have fV := zA fJ; have lb := zA fK; clear fJ fK; have H : (if (l0.length : Int) = (l1.length : Int) then (slices_Equal_int_int.l0 k l0 l1 (l0.length : Int) 0) else (some false)) = some r := h; clear h; by_cases c3 : (l0.length : Int) = (l1.length : Int)
 · rw [if_pos c3] at H; have cM : ((l0.length : Int) == (l1.length : Int)) = true := beq_iff_eq.mpr c3; have fo : ((l0.length : Int) != (l1.length : Int)) = false := bne_eq_false_iff_eq.mpr c3; have g3 : (l0.length == l1.length) = true := by first | simpa using c3 | (simp at c3 ⊢; omega)
   clear c3; have H' := zA H; clear H; go_enter Tryz.func85, Tryz.ntmps85; go_wp2; (repeat (go_quiet (fail); try go_wp2)); go_loopg [13] k (fun kq qF w' => ∃ (bp : Int), qF = .int .i64 bp ∧ Aside0 (slices_Equal_int_int.l0 kq l0 l1 (l0.length : Int) bp = some r) ∧ Aside0 (kq ≤ k) ∧ Drawn0 w w')
   case atStart => exact ⟨(0), zz0y, H', ⟨Nat.le_refl _⟩, zz0w⟩
   case round =>
    clear H'; (try clear c1); (try clear p2); (try clear c3); (try clear cM); (try clear fo); (try clear g3); obtain ⟨bp, rfl, HA, bJ, ⟨m1, rfl⟩⟩ := hrel; cases gk with
    | zero => exact absurd HA.out (by simp [slices_Equal_int_int.l0])
    | succ k1 =>
     have H := HA.out; clear HA; simp only [slices_Equal_int_int.l0] at H; by_cases c4 : bp < (l0.length : Int)
     · rw [if_pos c4] at H; have dr := decide_eq_true c4; clear c4; replace H := zIn H; obtain ⟨c5, H⟩ := H; have ff : decide (0 ≤ bp) = true := decide_eq_true c5; clear c5; replace H := zIn H; obtain ⟨c6, H⟩ := H; have dt : decide (bp < (l0.length : Int)) = true := decide_eq_true c6; clear c6; replace H := zIn H; obtain ⟨c7, H⟩ := H; have dA : decide (bp < (l1.length : Int)) = true := decide_eq_true c7; clear c7; by_cases c8 : (rd l0 bp) = (rd l1 bp)
       · rw [if_pos c8] at H; have dY : ((rd l0 bp) == (rd l1 bp)) = true := beq_iff_eq.mpr c8; have lK : ((rd l0 bp) != (rd l1 bp)) = false := bne_eq_false_iff_eq.mpr c8; clear c8; have H' := zA H; clear H; have aN : 0 ≤ (bp : Int) := of_decide_eq_true zz1b; have aQ : bp < (l0.length : Int) := of_decide_eq_true zz1b; obtain ⟨bm, bH, be⟩ := Kd.at_int dq.out bp aN aQ; cases bH; replace aN := eq_true aN; replace aQ := eq_true aQ; have bS : 0 ≤ (bp : Int) := of_decide_eq_true zz1b; have bT : bp < (l1.length : Int) := of_decide_eq_true zz1b; obtain ⟨dB, dj, b5⟩ := Kd.at_int fV.out bp bS bT; cases dj; replace bS := eq_true bS; replace bT := eq_true bT; go_wp2; repeat (go_quiet (fail); try go_wp2)
         go_roundg k1
         case measure => have := bJ.out; omega
         case rel => exact ⟨(wrap64 (bp + 1)), zz0y, H', ⟨zz18 bJ⟩, zz0w⟩
       · rw [if_neg c8] at H; have dY : ((rd l0 bp) == (rd l1 bp)) = false := beq_eq_false_iff_ne.mpr c8; have lK : ((rd l0 bp) != (rd l1 bp)) = true := bne_iff_ne.mpr c8; obtain rfl := Option.some.inj H; have aN : 0 ≤ (bp : Int) := of_decide_eq_true zz1b; have aQ : bp < (l0.length : Int) := of_decide_eq_true zz1b; obtain ⟨bm, bH, be⟩ := Kd.at_int dq.out bp aN aQ; cases bH; replace aN := eq_true aN; replace aQ := eq_true aQ; have bS : 0 ≤ (bp : Int) := of_decide_eq_true zz1b; have bT : bp < (l1.length : Int) := of_decide_eq_true zz1b; obtain ⟨dB, dj, b5⟩ := Kd.at_int fV.out bp bS bT; cases dj; replace bS := eq_true bS; replace bT := eq_true bT; go_wp2; (repeat (go_quiet (fail); try go_wp2)); go_ret; exact ⟨zz0y, zz0w⟩
     · rw [if_neg c4] at H; have dr := decide_eq_false c4; clear c4; obtain rfl := Option.some.inj H; go_wp2; (repeat (go_quiet (fail); try go_wp2)); go_ret; exact ⟨zz0y, zz0w⟩
 · rw [if_neg c3] at H; have cM : ((l0.length : Int) == (l1.length : Int)) = false := beq_eq_false_iff_ne.mpr c3; have fo : ((l0.length : Int) != (l1.length : Int)) = true := bne_iff_ne.mpr c3; have g3 : (l0.length == l1.length) = false := by first | simpa using c3 | (simp at c3 ⊢; omega)
   obtain rfl := Option.some.inj H; go_enter Tryz.func85, Tryz.ntmps85; go_wp2; (repeat (go_quiet (fail); try go_wp2)); go_ret; exact ⟨zz0y, zz0w⟩
end Go.Proofs.YtkocahlifffgjaaGreat.P
namespace Go.Proofs.YtkocahlifffgjaaGreat.P
open Go.RowKit Go.Proofs.YtkocahlifffgjaaGreatW.PrintWords Go.Proofs.YtkocahlifffgjaaGreatW.PrintLast Go.Proofs.YtkocahlifffgjaaGreatW.PrintMore
set_option linter.unusedVariables false
set_option linter.unusedSimpArgs false
theorem sliceEqR_loop (a b : List Int) (hl : a.length = b.length) (hb : a.length ≤ 9223372036854775807) (d : Nat) : ∀ (k i : Nat), i ≤ a.length → a.length - i = d → d < k →
 slices_Equal_int_int.l0 k a b a.length i = some (decide (a.drop i = b.drop i)) := by
 induction d with
 | zero =>
  intro k i h1 hd hk; obtain ⟨k, rfl⟩ : ∃ m, k = m + 1 := ⟨k - 1, zz1g⟩
  simp only [slices_Equal_int_int.l0]; rw [if_neg zz1g]; rw [List.drop_of_length_le zz1g, List.drop_of_length_le zz1g]; simp
 | succ d ih =>
  intro k i h1 hd hk; obtain ⟨k, rfl⟩ : ∃ m, k = m + 1 := ⟨k - 1, zz1g⟩
  simp only [slices_Equal_int_int.l0]; rw [if_pos zz1g, if_pos zz1g, if_pos zz1g, if_pos zz1g]; have hw : wrap64 ((i : Int) + 1) = ((i + 1 : Nat) : Int) := by unfold wrap64; omega
  have ea : a.drop i = rd a i :: a.drop (i + 1) := by
   rw [List.drop_eq_getElem_cons (show i < a.length by omega)]; congr 1; unfold rd; rw [List.getD_eq_getElem?_getD, Int.toNat_natCast, List.getElem?_eq_getElem zz1g]; rfl
  have eb : b.drop i = rd b i :: b.drop (i + 1) := by
   rw [List.drop_eq_getElem_cons (show i < b.length by omega)]; congr 1; unfold rd; rw [List.getD_eq_getElem?_getD, Int.toNat_natCast, List.getElem?_eq_getElem zz1g]; rfl
  by_cases he : rd a i = rd b i
  · rw [if_pos he, hw, ih k (i + 1) zz1g zz1g zz1g, ea, eb, he]; congr 1; simp
  · rw [if_neg he, ea, eb]; simp [he]
theorem sliceEqR_eq (a b : List Int) (hb : a.length ≤ 9223372036854775807) : ∀ k, a.length < k → slices_Equal_int_int.f k a b = some (decide (a = b)) := by
 intro k hk; unfold slices_Equal_int_int.f; by_cases hl : a.length = b.length
 · rw [if_pos zz1g]; have := sliceEqR_loop a b hl hb a.length k 0 zz1g zz1g hk; simpa using this
 · rw [if_neg zz1g]; have : a ≠ b := fun h => hl (by rw [h])
   simp [this]
def sortR (l : List (List Int)) : List (List Int) := l.mergeSort fun a b => !decide (cmpL b a < 0)
theorem sortR_perm (l : List (List Int)) : (sortR l).Perm l := List.mergeSort_perm _ _
theorem sortR_up (l : List (List Int)) : (sortR l).Pairwise (fun a b => ¬ cmpL b a < 0) := by
 have h := List.pairwise_mergeSort (le := fun (a b : List Int) => !decide (cmpL b a < 0)) (fun a b c h1 h2 => by
  simp only [Bool.not_eq_true', decide_eq_false_iff_not] at *
  exact fun h => (Go.Sort.SWO.ntrans (cmpL_swo (id : List Int → List Int)) c b a (decide_eq_false h2) (decide_eq_false h1)) |> fun e => by
   unfold ltOf at e; exact of_decide_eq_false e h) (fun a b => by
  by_cases c : cmpL b a < 0
  · have h := cmpL_neg b a; simp only [Bool.or_eq_true, Bool.not_eq_true', decide_eq_false_iff_not]; exact .inr zz1g
  · simp [c]) l
 exact h.imp fun h => by simpa using h
theorem sortR_of {l m : List (List Int)} (hp : m.Perm l) (hs : m.Pairwise (fun a b => ¬ cmpL b a < 0)) : m = sortR l :=
 List.Perm.eq_of_pairwise (le := fun a b => ¬ cmpL b a < 0) (fun a b _ _ h1 h2 => cmpL_eq a b (by have := cmpL_neg a b; omega)) hs (sortR_up l) (hp.trans (sortR_perm l).symm)
theorem compact_sortR (l : List (List Int)) : dedupA (sortR l) = sortL l := dedup_sort (sortR_perm l) (sortR_up l)
theorem below_grownBy {w0 w w' : World} {row : Option Nat} (hB : Below w0.heap.size w0 w) (hg : w.grownBy w' row) (hr : ∀ k, row = some k → w0.heap.size ≤ k) : Below w0.heap.size w0 w' := hB.grown hg hB.size hr
theorem sortS_calls (ok : Nat → Prop) (v : Value) (l : List (List Int)) (w0 w : World) (hB : Below w0.heap.size w0 w) (hS : Kd.S (Kd.slice 3 (Kd.int .i64)) 23 w w0.heap.size ok v l) (hlen : l.length < 4611686018427387904) :
 Calls Tryz.prog 83 #[v, .func (.func 53) #[] #[]] w fun e w' => e = .returned (.tuple #[]) ∧ Kd.S (Kd.slice 3 (Kd.int .i64)) 23 w' w0.heap.size ok v (sortR l) ∧ Below w0.heap.size w0 w' := by
 have hbase := fun k (hk : v.ownBlock = some k) => Kd.R_base (Kd.S_R hS) k hk
 obtain ⟨f, hR⟩ := hS; refine (sortRows_calls f w0.heap.size ok v l.zipIdx w hR (by rw [List.length_zipIdx]; exact hlen)).mono fun e w' ⟨he, zs, hp, hs, hR', hg⟩ => ⟨he, ?_, below_grownBy hB hg hbase⟩
 have e1 : zs.map Prod.fst = sortR l := sortR_of (by have := hp.map Prod.fst; rwa [List.zipIdx_map_fst] at this) (by rw [List.pairwise_map]; exact hs); have e2 : (zs.map Prod.snd).Nodup := (hp.map Prod.snd).nodup_iff.2 (by rw [List.zipIdx_map_snd]; exact List.nodup_range'); rw [← e1]; exact S_part hR' e2
theorem grown_cells1 {w : World} {g : Nat} (o : Nat) (vs : List Value) : w.grownBy (w.setCells g o vs) (some g) := by
 obtain ⟨s1, s2, s3, s4⟩ := setCells_same g vs o w; exact ⟨s1, s2, s3, by rw [s4]; exact Nat.le_refl _, fun k hk hn => setCells_far vs o k (fun e => hn (by rw [e]))⟩
set_option maxHeartbeats 4000000 in
set_option maxRecDepth 100000 in
theorem compactS_calls (ok : Nat → Prop) (v : Value) (l : List (List Int)) (w0 w : World) (hB : Below w0.heap.size w0 w) (hS : Kd.S (Kd.slice 3 (Kd.int .i64)) 23 w w0.heap.size ok v l) :
 Calls Tryz.prog 84 #[v, .func (.func 85) #[] #[]] w fun e w' => ∃ v', e = .returned v' ∧ Kd.S (Kd.slice 3 (Kd.int .i64)) 23 w' w0.heap.size ok v' (dedupA l) ∧ Below w0.heap.size w0 w' := by
 have eg : ∀ args w, (callFunc 85 args).run Tryz.prog w = .ok (.enter 85 args) w := enters_of Tryz.func85 zz1c rfl; obtain ⟨A, c, rfl⟩ := Kd.R_slice (Kd.S_R hS); obtain ⟨_, hcap, hC⟩ := Kd.S_reads' hS; have hml : l.length ≤ 9223372036854775807 := hC.2.1; by_cases h2 : l.length < 2
 · have d1 : decide ((l.length : Int) < 2) = true := decide_eq_true zz1g; have d2 : decide (l.length < 2) = true := decide_eq_true h2; have FIN := zA (show dedupA l = l from dedupA_self fun j a b => by omega); have HS := zA hS; have HB := zA hB; clear hS hC hcap eg hB h2; go_enter Tryz.func84, Tryz.ntmps84; go_wp2; go_ret; exact ⟨_, rfl, zz17 FIN HS, HB.out⟩
 · have d1 : decide ((l.length : Int) < 2) = false := decide_eq_false zz1g; have d2 : decide (l.length < 2) = false := decide_eq_false h2; obtain ⟨ga, cap, hv, hbg, hga, _⟩ := Kd.S_form hS zz1g; injection hv with hA _ hc0; subst hc0; subst hA; obtain ⟨ad, had⟩ : ∃ ad : Addr, ad = ⟨ga, 0, none⟩ := ⟨_, rfl⟩
   have AD := zA had; have GE := zA hbg; have HS := zA hS; obtain ⟨f, hR⟩ := hS; have HR := zA hR; have HCAP := zA hcap; have HB := zA hB; have H2 := zA h2; rw [← had]; clear hR hcap had hbg hga hC hB h2; go_enter Tryz.func84, Tryz.ntmps84; go_wp2; clear d1 d2; go_loopg [5] l.length (fun gg s5 wr => ∃ kk : Nat, 1 ≤ kk ∧ kk ≤ l.length ∧ l.length - kk ≤ gg ∧ s5 = .int .i64 kk ∧ Aside0 (∀ j, 1 ≤ j → j < kk → l.getD j [] ≠ l.getD (j - 1) []) ∧ Aside0 (Below w0.heap.size w0 wr) ∧ Aside0 (Kd.S (Kd.slice 3 (Kd.int .i64)) 23 wr w0.heap.size ok (.slice (some ad) l.length c) l) ∧ Aside0 ((Kd.tag f (Kd.slice 3 (Kd.int .i64))).R 23 wr w0.heap.size ok (.slice (some ⟨ga, 0, none⟩) l.length c) l.zipIdx))
   case atStart => exact ⟨1, Nat.le_refl _, zz18 H2, zz1g, rfl, ⟨fun j a b => by omega⟩, HB, ⟨zz17 AD HS⟩, HR⟩
   case round =>
    clear HB HR HS; obtain ⟨kk, hk1, hkk, hg, rfl, NE, HB, HS, HR⟩ := hrel; by_cases hlt : kk < l.length
    · obtain ⟨m, rfl⟩ : ∃ m, kk = m + 1 := ⟨kk - 1, zz1g⟩
      have hd : decide (m + 1 < l.length) = true := decide_eq_true hlt; have hdi : decide ((m : Int) + 1 < (l.length : Int)) = true := decide_eq_true zz1g; obtain ⟨a1, hx1, ⟨v1, hcs1, hRr1⟩, _, _⟩ := R_one rfl HR.out (m + 1) _ (zipAt hlt); obtain ⟨a2, hx2, ⟨v2, hcs2, hRr2⟩, _, _⟩ := R_one rfl HR.out m _ (zipAt (show m < l.length by omega)); injection hcs1 with e1 _; injection hcs2 with e2 _; obtain ⟨A1, c1, e3, hl1, hi1⟩ := Kd.R_reads hRr1; obtain ⟨A2, c2, e4, hl2, hi2⟩ := Kd.R_reads hRr2; rw [e1, e3] at hx1; rw [e2, e4] at hx2; have q1 := Later.cell (w := wr) (a := ⟨ad.block, ad.off + (m + 1), none⟩) (v := .slice A1 (l.getD (m + 1) []).length c1) (by rw [AD.out]; show wr.cell? ⟨ga, 0 + (m + 1), none⟩ = _; rw [Nat.zero_add]; exact hx1); have q2 := Later.cell (w := wr) (a := ad.add m) (v := .slice A2 (l.getD m []).length c2) (by rw [AD.out, add_at, Nat.zero_add]; exact hx2); have q3 := Later.cell (w := wr) (a := ⟨ad.block, ad.off + m, none⟩) (v := .slice A2 (l.getD m []).length c2) (by rw [AD.out]; show wr.cell? ⟨ga, 0 + m, none⟩ = _; rw [Nat.zero_add]; exact hx2); have HI1 := zA (show Kd.C (Kd.int .i64) wr A1 (l.getD (m + 1) []).length (l.getD (m + 1) []) from hi1); have HI2 := zA (show Kd.C (Kd.int .i64) wr A2 (l.getD m []).length (l.getD m []) from hi2); have HL1 := zA (show (l.getD (m + 1) []).length ≤ c1 from hl1); have HL2 := zA (show (l.getD m []).length ≤ c2 from hl2); have YE := zA (show l.getD (m + 1) [] = l.getD (m + 1) [] from rfl); have ZE := zA (show l.getD m [] = l.getD m [] from rfl); have hmy := zA hi1.2.1; have L := zA hlt; have H1 := zA hkk; clear hx1 hx2 hRr1 hRr2 hi1 hi2 hl1 hl2 e1 e2 e3 e4 hkk; have hlt0 : m < l.length := by omega
      clear v1 v2; have YE2 : ∃ y, y = l.getD (m + 1) [] := ⟨_, rfl⟩
      have ZE2 : ∃ z, z = l.getD m [] := ⟨_, rfl⟩
      obtain ⟨y, hy⟩ := YE2; obtain ⟨z, hz⟩ := ZE2; rw [← hy] at q1 HI1 HL1; rw [← hz] at q2 q3 HI2 HL2; have YQ := zA hy; have ZQ := zA hz; have JE := zA (sliceEqR_eq y z HI1.out.2.1 (y.length + 1) (Nat.lt_succ_self _)); clear hy hz YE ZE hmy
      go_upto_region 6 with fail
      by_cases heq : y = z
      · rw [decide_eq_true heq] at JE; have EQV := zA heq; clear heq; have EQ := fun (W : World) (hW : Below wr.heap.size wr W) => slices_Equal_int_int.calls (y.length + 1) A1 c1 y A2 c2 z true W (zS HI1.out hW) HL1.out (zS HI2.out hW) HL2.out JE.out
        refine wp_region_later zz1c zz1c ?_; (repeat (go_big_quiet_step (first | (go_at_fn 85; with_reducible exact Later.callD (EQ _ (Later.below _)))))); refine wpQuiet_nil ?_; intro w4_ hw4; obtain ⟨⟨w4, hb4⟩, hw4⟩ := hw4; subst hw4; (try dsimp only); have HB4 := zA (zG HB.out hb4); have HR4 := zA (Kd.R_below HR.out hb4); have CI := zA (cmpI_start (xs := l) (k := m + 1) zz1g L.out NE.out (by rw [show m + 1 - 1 = m by omega, ← YQ.out, ← ZQ.out]; exact EQV.out)); clear hb4 EQ q1 q2 q3 HR HB HS HI1 HI2 HL1 HL2 JE EQV NE YQ ZQ; have HB := HB4; have HR := HR4; clear HB4 HR4; obtain ⟨k0, hk0⟩ : ∃ k0, k0 = m + 1 := ⟨_, rfl⟩
        have K0 := zA hk0; rw [← hk0] at CI L H1; have hcap := HCAP.out; obtain ⟨i0, hi0, hz0, hsz0, _⟩ := info_parts info23; have hcut0 := cut_from (P := Tryz.prog) 22 23 .i64 Tryz.underlying22 hi0 1 hsz0 (some ad) l.length c ((m + 1 : Nat) : Int) zz1g (zz18 L); obtain ⟨bd, hbd⟩ : ∃ bd : Addr, bd = ⟨ga, k0, none⟩ := ⟨_, rfl⟩
        have BD := zA hbd; obtain ⟨n2, hn2⟩ : ∃ n2, n2 = l.length - k0 := ⟨_, rfl⟩
        have N2 := zA hn2; have hcut : ∀ W : World, (Instr.slice 22 (.slice (some ad) l.length c) (some (.int .i64 ((m + 1 : Nat) : Int))) none none).run Tryz.prog W = .ok (.slice (some bd) n2 (c - k0)) W := fun W => by
         have h9 := hcut0 W; have hne : ¬ c = m + 1 := by have := L.out; omega
         rw [Int.toNat_natCast, if_neg hne, Option.map_some, show ad.add ((m + 1) * 1) = bd by rw [hbd, hk0, AD.out, add_at, Nat.zero_add, Nat.mul_one]] at h9; rw [h9, hn2, hk0]
        have hcut2 : ∀ W : World, (Instr.slice 22 (.slice (some ad) l.length c) (some (.int .i64 ((m : Int) + 1))) none none).run Tryz.prog W = .ok (.slice (some bd) n2 (c - k0)) W := fun W => by
         have h9 := hcut W; rw [show ((m + 1 : Nat) : Int) = (m : Int) + 1 by omega] at h9; exact h9
        have hn2b : n2 ≤ l.length := by omega
        clear hcut0 hi0 hz0 hsz0 hbd hn2 hcap; go_wp2; clear hcut hcut2; clear hd hdi; go_loopg [5, 7] n2 (fun gg s5 s7 wq => ∃ (ii jj : Nat) (zs : List (List Int × Nat)), 1 ≤ jj ∧ jj ≤ n2 ∧ n2 - jj ≤ gg ∧ s5 = .int .i64 ii ∧ s7 = .int .i64 jj ∧ Aside0 (CmpI l zs ii (k0 + jj)) ∧ Aside0 (Below w0.heap.size w0 wq) ∧ Aside0 ((Kd.tag f (Kd.slice 3 (Kd.int .i64))).R 23 wq w0.heap.size ok (.slice (some ⟨ga, 0, none⟩) l.length c) zs))
        case atStart => exact ⟨k0, 1, _, Nat.le_refl _, zz15 N2 L, zz1g, by rw [K0.out]; go_num, rfl, CI, HB, HR⟩
        case round =>
         clear HB HR CI; obtain ⟨ii, jj, zs, hj1, hjj, hg2, rfl, rfl, CI, HB, HR⟩ := hrel; have hzl : zs.length = l.length := CI.out.1; have hii : ii + 1 ≤ k0 + jj := CI.out.2.1; by_cases hlt2 : jj < n2
         · obtain ⟨q, rfl⟩ : ∃ q, jj = q + 1 := ⟨jj - 1, zz1g⟩
           have hd2 : decide (q + 1 < n2) = true := decide_eq_true hlt2; have hd2i : decide ((q : Int) + 1 < (n2 : Int)) = true := decide_eq_true zz1g; have hp1 : k0 + (q + 1) < l.length := by have := N2.out; omega
           have hp2 : k0 + q < l.length := by omega
           have Z1 := cmpI_at CI.out (k0 + (q + 1)) zz1g hp1; have Z2 := cmpI_at CI.out (k0 + q) zz1g hp2; obtain ⟨a1, hx1, ⟨v1, hcs1, hRr1⟩, _, _⟩ := R_one rfl HR.out _ _ Z1; obtain ⟨a2, hx2, ⟨v2, hcs2, hRr2⟩, _, _⟩ := R_one rfl HR.out _ _ Z2; injection hcs1 with e1 _; injection hcs2 with e2 _; obtain ⟨A1, c1, e3, hl1, hi1⟩ := Kd.R_reads hRr1; obtain ⟨A2, c2, e4, hl2, hi2⟩ := Kd.R_reads hRr2; rw [e1, e3] at hx1; rw [e2, e4] at hx2; have HX1 := zA (show wr.cell? ⟨ga, k0 + (q + 1), none⟩ = some (.slice A1 (l.getD (k0 + (q + 1)) []).length c1) from hx1); have HX2 := zA (show wr.cell? ⟨ga, k0 + q, none⟩ = some (.slice A2 (l.getD (k0 + q) []).length c2) from hx2); have HI1 := zA (show Kd.C (Kd.int .i64) wr A1 (l.getD (k0 + (q + 1)) []).length (l.getD (k0 + (q + 1)) []) from hi1); have HI2 := zA (show Kd.C (Kd.int .i64) wr A2 (l.getD (k0 + q) []).length (l.getD (k0 + q) []) from hi2); have HL1 := zA (show (l.getD (k0 + (q + 1)) []).length ≤ c1 from hl1); have HL2 := zA (show (l.getD (k0 + q) []).length ≤ c2 from hl2); have SK := zA fun h => cmpI_skip CI.out hp1 h
           have KP := zA fun h => cmpI_keep CI.out hp1 h
           have L2 := zA hlt2; have ZZ1 := zA Z1; clear hx1 hx2 hRr1 hRr2 hi1 hi2 hl1 hl2 e1 e2 e3 e4 Z1 Z2 v1 v2 CI; have hlt20 : q < n2 := by omega
           rw [show k0 + (q + 1) - 1 = k0 + q by omega] at SK KP; obtain ⟨y, hy⟩ : ∃ y, y = l.getD (k0 + (q + 1)) [] := ⟨_, rfl⟩
           obtain ⟨z, hz⟩ : ∃ z, z = l.getD (k0 + q) [] := ⟨_, rfl⟩
           rw [← hy] at HX1 HI1 HL1 SK KP ZZ1; rw [← hz] at HX2 HI2 HL2 SK KP; have q1 := Later.cell (w := wr) (a := ⟨bd.block, bd.off + (q + 1), none⟩) (v := .slice A1 y.length c1) (zz17 BD HX1); have q2 := Later.cell (w := wr) (a := bd.add q) (v := .slice A2 z.length c2) (by rw [BD.out, add_at]; exact HX2.out); have q3 := Later.cell (w := wr) (a := ⟨bd.block, bd.off + q, none⟩) (v := .slice A2 z.length c2) (zz17 BD HX2); have JE := zA (sliceEqR_eq y z HI1.out.2.1 (y.length + 1) (Nat.lt_succ_self _)); clear hy hz HX2
           go_upto_region 11 with fail
           by_cases heq : y = z
           · rw [decide_eq_true heq] at JE; have CI := zA (SK.out heq); clear heq SK KP; have EQ := fun (W : World) (hW : Below wr.heap.size wr W) => slices_Equal_int_int.calls (y.length + 1) A1 c1 y A2 c2 z true W (zS HI1.out hW) HL1.out (zS HI2.out hW) HL2.out JE.out
             refine wp_region_later zz1c zz1c ?_; (repeat (go_big_quiet_step (first | (go_at_fn 85; with_reducible exact Later.callD (EQ _ (Later.below _)))))); refine wpQuiet_nil ?_; intro w4_ hw4; obtain ⟨⟨w4, hb4⟩, hw4⟩ := hw4; subst hw4; (try dsimp only); have HB4 := zA (zG HB.out hb4); have HR4 := zA (Kd.R_below HR.out hb4); clear hb4 EQ q1 q2 q3 HR HB HI1 HI2 HL1 HL2 JE HX1 ZZ1; go_wp2
             go_roundg (n2 - (q + 1 + 1))
             case measure => have := L2.out; omega
             case rel => exact ⟨ii, q + 1 + 1, zs, zz1g, zz18 L2, zz1g, zz1e, zz1e, CI, HB4, HR4⟩
           · rw [decide_eq_false heq] at JE; have CI := zA (KP.out heq); clear heq SK KP; have EQ := fun (W : World) (hW : Below wr.heap.size wr W) => slices_Equal_int_int.calls (y.length + 1) A1 c1 y A2 c2 z false W (zS HI1.out hW) HL1.out (zS HI2.out hW) HL2.out JE.out
             refine wp_region_later zz1c zz1c ?_; (repeat (go_big_quiet_step (first | (go_at_fn 85; with_reducible exact Later.callD (EQ _ (Later.below _)))))); refine wpQuiet_nil ?_; intro w4_ hw4; obtain ⟨⟨w4, hb4⟩, hw4⟩ := hw4; subst hw4; (try dsimp only); have HB4 := zA (zG HB.out hb4); have HR4 := zA (Kd.R_below HR.out hb4); have hx4 := (hb4.cell (World.block_lt_of_cell? wr _ HX1.out)).trans HX1.out; have hiz : ii < zs.length := by omega
             obtain ⟨p0, hp0, _, hpf, _⟩ := R_one rfl HR4.out ii _ (List.getElem?_eq_getElem hiz); have hy1 : w4_.cell? ⟨bd.block, bd.off + (q + 1), none⟩ = some (.slice A1 y.length c1) := by rw [BD.out]; exact hx4
             have hy2 : w4_.cell? (ad.add ii) = some p0 := by rw [AD.out, add_at, Nat.zero_add]; exact hp0
             have hy3 : w4_.frozen? (ad.add ii) = false := by rw [AD.out, add_at, Nat.zero_add]; exact hpf
             have hilt : ii < l.length := by omega
             have HRC := zA (R_copy1 rfl HR4.out ii (k0 + (q + 1)) hiz _ ZZ1.out hx4); have HBC := zA (show Below w0.heap.size w0 (w4_.setCell (ad.add ii) (.slice A1 y.length c1)) by rw [AD.out, add_at, Nat.zero_add]; exact zE HB4.out GE.out); have EQW := zA (show w4_.setCell (ad.add ii) (.slice A1 y.length c1) = w4_.setCell ⟨ga, ii, none⟩ (.slice A1 y.length c1) by rw [AD.out, add_at, Nat.zero_add]); clear hb4 EQ q1 q2 q3 HR HB HI1 HI2 HL1 HL2 JE HX1 ZZ1 hp0 hpf hx4 HR4 HB4; go_wp2
             go_roundg (n2 - (q + 1 + 1))
             case measure => have := L2.out; omega
             case rel => exact ⟨ii + 1, q + 1 + 1, _, zz1g, zz18 L2, zz1g, zz1e, zz1e, CI, HBC, ⟨zz17 EQW HRC⟩⟩
         · have hd2 : decide (jj < n2) = false := decide_eq_false hlt2; obtain ⟨E1, E2⟩ := cmpI_end CI.out (show ¬ k0 + jj < l.length by have := N2.out; omega); have hin : ii ≤ l.length := by have := CI.out.2.2.1; omega
           have hcap := HCAP.out; have HH := R_head HR.out ii zz1g; obtain ⟨i0, hi0, hz0, hsz0, _⟩ := info_parts info23; have hcut0 := cut_from (P := Tryz.prog) 22 23 .i64 Tryz.underlying22 hi0 1 hsz0 (some ad) l.length c ii zz1g zz1g; have hcut1 := cut_to (P := Tryz.prog) 22 23 .i64 Tryz.underlying22 hi0 (some ad) l.length c ii zz1g zz1g hcap; rw [Int.toNat_natCast] at hcut0 hcut1; obtain ⟨A9, hA9⟩ : ∃ A9 : Option Addr, A9 = (if c = ii then some ad else (some ad).map (·.add (ii * 1))) := ⟨_, rfl⟩
           have hcut : ∀ W : World, (Instr.slice 22 (.slice (some ad) l.length c) (some (.int .i64 ii)) none none).run Tryz.prog W = .ok (.slice A9 (l.length - ii) (c - ii)) W := fun W => by rw [hcut0 W, hA9]
           have hclr : ∃ V : World, (∀ ty, (Builtin.clear_ #[22] ty #[.slice A9 (l.length - ii) (c - ii)]).run Tryz.prog wr = .ok (.tuple #[]) V) ∧ Below w0.heap.size w0 V ∧ (Kd.tag f (Kd.slice 3 (Kd.int .i64))).R 23 V w0.heap.size ok (.slice (some ⟨ga, 0, none⟩) ii c) (zs.take ii) := by
            by_cases h0 : l.length - ii = 0
            · exact ⟨wr, fun ty => by rw [h0]; cases A9 <;> simp [Builtin.clear_], HB.out, HH⟩
            · have hA9' : A9 = some ⟨ga, ii, none⟩ := by rw [hA9, if_neg zz1g, AD.out, Option.map_some, add_at, Nat.zero_add, Nat.mul_one]
              subst hA9'; obtain ⟨hok, inner, ⟨hlen, hrow⟩, hr1, hr2⟩ := HR.out; rcases hrow with ⟨hv, _⟩ | ⟨g', cap', cur, hv, hbg, hh, hnc, hcm, hcs, ht⟩
              · cases hv
              injection hv with ha0 hn0 hc0; injection ha0 with ha0; injection ha0 with hg0; subst hg0; subst hc0; have hsz2 : (Kd.tag f (Kd.slice 3 (Kd.int .i64))).sz = 1 := rfl; have hzc : ∀ W : World, (zeroValue 23).run Tryz.prog W = .ok (.slice none 0 0) W := fun W => by simp [zeroValue, typeInfo, hi0, hz0]
              have hst := clear_one (P := Tryz.prog) wr 22 23 ga ii (l.length - ii) (c - ii) Tryz.underlying22 hzc zz1g (fun j hj => by rw [zK hh]; simp; rw [hcs, hsz2]; omega) (fun j hj => zL hh _); have hgc := grown_cells1 (w := wr) (g := ga) ii (zc1 (l.length - ii)); exact ⟨_, hst, below_grownBy HB.out hgc (fun k hk => by injection hk with hk; rw [← hk]; exact GE.out), R_tail HH ii (by rw [List.length_take, hsz2]; omega) _ (by rw [zc1_len, hsz2]; omega)⟩
           obtain ⟨V, hclr, hBV, hRV⟩ := hclr; have FIN := zA (show Kd.S (Kd.slice 3 (Kd.int .i64)) 23 V w0.heap.size ok (.slice (some ad) ii c) (dedupA l) by rw [AD.out, ← E1]; exact S_part hRV E2); have HV := zA hBV; clear hRV hBV E1 E2 hcut0 hA9 HH HR HB CI hlt2 hin hzl hcap hi0 hz0 hsz0 hii; go_wp2; go_ret; exact ⟨_, rfl, FIN.out, HV.out⟩
      · rw [decide_eq_false heq] at JE; have NE2 := zA (show ∀ j, 1 ≤ j → j < m + 1 + 1 → l.getD j [] ≠ l.getD (j - 1) [] from by
         intro j a b; by_cases ej : j = m + 1
         · subst ej; rw [show m + 1 - 1 = m by omega, ← YQ.out, ← ZQ.out]; exact heq
         · exact NE.out j a zz1g)
        clear heq; have EQ := fun (W : World) (hW : Below wr.heap.size wr W) => slices_Equal_int_int.calls (y.length + 1) A1 c1 y A2 c2 z false W (zS HI1.out hW) HL1.out (zS HI2.out hW) HL2.out JE.out
        refine wp_region_later zz1c zz1c ?_; (repeat (go_big_quiet_step (first | (go_at_fn 85; with_reducible exact Later.callD (EQ _ (Later.below _)))))); refine wpQuiet_nil ?_; intro w4_ hw4; obtain ⟨⟨w4, hb4⟩, hw4⟩ := hw4; subst hw4; (try dsimp only); have HB4 := zA (zG HB.out hb4); have HR4 := zA (Kd.R_below HR.out hb4); have HS4 := zA (Kd.S_below HS.out hb4); clear hb4 EQ q1 q2 q3 HR HB HS HI1 HI2 HL1 HL2 JE NE YQ ZQ; go_wp2
        go_roundg (l.length - (m + 1 + 1))
        case measure => have := L.out; omega
        case rel => exact ⟨m + 1 + 1, zz1g, zz18 L, zz1g, zz1e, NE2, HB4, HS4, HR4⟩
    · have hd : decide (kk < l.length) = false := decide_eq_false hlt; have FIN := zA (show dedupA l = l from dedupA_self fun j a b => NE.out j a zz1g); clear hlt; go_wp2; go_ret; exact ⟨_, rfl, zz17 FIN HS, HB.out⟩
def PredL (g : Nat) (lb : Array Value) (p : List Int → Bool) (w : World) : Prop :=
 ∀ (W : World) (x : List Int) (A : Option Addr) (c : Nat), Below w.heap.size w W → x.length ≤ c → Kd.C (Kd.int .i64) W A x.length x →
  Calls Tryz.prog g (#[.slice A x.length c] ++ lb) W fun e w' => e = .returned (.bool (p x)) ∧ Below W.heap.size W w'
set_option maxHeartbeats 2000000 in
set_option maxRecDepth 100000 in
theorem indexFunc_row (g : Nat) (lb : Array Value) (eg : ∀ args w, (callFunc g args).run Tryz.prog w = .ok (.enter g args) w) (p : List Int → Bool) (A : Option Addr) (c : Nat) (l : List (List Int)) (w : World)
 (hr : Kd.C (Kd.slice 3 (Kd.int .i64)) w A l.length l) (hc : l.length ≤ c) (hp : PredL g lb p w) :
 Calls Tryz.prog 69 #[.slice A l.length c, .func (.func g) #[] lb] w fun e w' => e = .returned (.int .i64 (idxF p l)) ∧ Below w.heap.size w w' := by
 have hmax : l.length ≤ 9223372036854775807 := hr.2.1; go_enter Tryz.func69, Tryz.ntmps69; go_wp2; go_loopg [5, 8] l.length (fun gg _ s8 wr => ∃ kk : Nat, kk ≤ l.length ∧ l.length - kk ≤ gg ∧ s8 = .int .i64 kk ∧ Aside0 (Below w.heap.size w wr) ∧ Aside0 (∀ j, j < kk → p (l.getD j []) = false))
 case atStart => exact ⟨0, Nat.zero_le _, zz1g, rfl, ⟨Below.refl _ w⟩, ⟨fun j hj => absurd hj (Nat.not_lt_zero _)⟩⟩
 case round =>
  obtain ⟨kk, hkk, hg, rfl, BW, A0⟩ := hrel; by_cases hlt : kk < l.length
  · obtain ⟨ad, A1, c1, e, hx0, hl1, hi1⟩ := at_L1 (zS hr BW.out) (kk : Int) zz1g zz1g; subst e; have hx2 : wr.cell? (ad.add kk) = some (.slice A1 (rd_L1 l kk).length c1) := by simpa using hx0
    have hcall := hp wr (rd_L1 l kk) A1 c1 BW.out hl1 hi1; have hB := zA (show l.getD kk [] = rd_L1 l kk from rfl); have L := zA hlt; have hd : decide (kk < l.length) = true := decide_eq_true hlt; clear hx0 hp hr hl1 hi1; generalize rd_L1 l kk = y at hcall hB hx2; cases hq : p y with
    | true =>
     rw [hq] at hcall; have Q := zA hq; clear hq; go_wp2_with fail; refine hcall.mono ?_; rintro e w' ⟨rfl, hb'⟩; clear hcall hd eg hlt; go_wp2; go_ret; refine ⟨?_, zG BW.out hb'⟩; rw [idxF_hit p l [] kk L.out (zz17 hB Q) A0.out]; rfl
    | false =>
     rw [hq] at hcall; have Q := zA hq; clear hq; go_wp2_with fail; refine hcall.mono ?_; rintro e w' ⟨rfl, hb'⟩; clear hcall hd eg; go_wp2
     go_roundg (l.length - (kk + 1))
     case measure => have := L.out; omega
     case rel =>
      refine ⟨kk + 1, zz18 L, zz1g, zz1e, ⟨zG BW.out hb'⟩, ⟨fun j hj => ?_⟩⟩; by_cases ej : j = kk
      · subst ej; rw [hB.out]; exact Q.out
      · exact A0.out j zz1g
  · have hd : decide (kk < l.length) = false := decide_eq_false hlt; have L := zA (show kk = l.length by omega); clear hp hr hlt; go_wp2; go_ret; refine ⟨?_, BW.out⟩; rw [idxF_miss p l [] (by have := A0.out; rw [L.out] at this; exact this)]; rfl
set_option maxHeartbeats 2000000 in
theorem containsFunc_row (g : Nat) (lb : Array Value) (eg : ∀ args w, (callFunc g args).run Tryz.prog w = .ok (.enter g args) w) (p : List Int → Bool) (A : Option Addr) (c : Nat) (l : List (List Int)) (w : World)
 (hr : Kd.C (Kd.slice 3 (Kd.int .i64)) w A l.length l) (hc : l.length ≤ c) (hp : PredL g lb p w) :
 Calls Tryz.prog 50 #[.slice A l.length c, .func (.func g) #[] lb] w fun e w' => e = .returned (.bool (l.any p)) ∧ Below w.heap.size w w' := by
 have H := indexFunc_row g lb eg p A c l w hr hc hp; have hz := zA (idxF_any p l); generalize idxF p l = i at H hz; go_enter Tryz.func50, Tryz.ntmps50; go_wp2_with (go_at_call 69; refine H.mono ?_; rintro e w' ⟨rfl, hb'⟩); go_ret; exact ⟨by rw [← hz.out]; rfl, hb'⟩
end Go.Proofs.YtkocahlifffgjaaGreat.P
namespace Go.Proofs.YtkocahlifffgjaaGreat.P
open Go.RowKit Go.Proofs.YtkocahlifffgjaaGreatW.PrintWords Go.Proofs.YtkocahlifffgjaaGreatW.PrintLast Go.Proofs.YtkocahlifffgjaaGreatW.PrintMore
open Go.Maps (Keyed)
set_option linter.unusedVariables false
set_option linter.unusedSimpArgs false
def asIs (v : Value) : Option (DataW Value × List MemPlace) := some (.held v, [])
section
variable {P : Program} {w : World} {ops : Array Oper} {rest : List Oper} {o : Oper} {a : Act} {Q : Exit → Act → World → Prop}
theorem made_event (hg : o.guard = none) (t k : TypeId) (hop : o.op = Op.makeMap t none)
 (hK : ∀ b, b = w.heap.size → ∀ w', w'.ownsMap P k asIs b 0 (.map []) → w.grownBy w' none → wpList P ops Q rest (a.put o.dst (.map (some b))) w') : wpList P ops Q (o :: rest) a w := by
 refine wpList_plain hg fun K' hK' => ?_
 have hmm := @run_makeMap P; unfold Oper.wp; simp [execOp, hop, hmm, Result.andThen]; exact hK' _ _ (hK _ rfl _ (World.ownsMap_made w P k asIs) (World.grownBy_alloc w _ none))
theorem insert_event (hg : o.guard = none) (m x v : Operand) (t : TypeId) (hop : o.op = Op.insert t m x v)
 (k e : TypeId) (K : Keyed P k) (ht : P.underlying t = some (.map k e)) (b n : Nat) (D : DataW Value)
 (hm : a.eval m = .map (some b)) (hown : w.ownsMap P k asIs b n D) (hn : n < maxLen) (key val : Value) (kl : Lit) (hx : a.eval x = key) (hv : a.eval v = val) (hkey : keyOf P k key = some kl)
 (hK : ∀ w', w'.ownsMap P k asIs b (n + 1) (D.put kl (.held val)) → w.grownBy w' (some b) → wpList P ops Q rest (a.put o.dst undef) w') :
 wpList P ops Q (o :: rest) a w := by
 refine wpList_plain hg fun K' hK' => ?_
 obtain ⟨w', hrun, r1, r2⟩ := hown.update K ht hn hkey (val := val) (d := .held val) (ps := []) rfl; unfold Oper.wp; simp [execOp, hop, hm, hx, hv, hrun, Result.andThen]; exact hK' _ _ (hK w' r1 r2)
end
def two (v3 v2 : Value) : DataW Value := ((DataW.map []).put (.int .i64 3) (.held v3)).put (.int .i64 2) (.held v2)
theorem two_map0 : Maps.IsMap (DataW.map [] : DataW Value) := ⟨[], rfl⟩
theorem two_keys (v3 v2 : Value) (kl : Lit) (h : Maps.has (two v3 v2) kl = true) : kl = .int .i64 3 ∨ kl = .int .i64 2 := by
 by_cases h2 : kl = .int .i64 2
 · exact .inr h2
 · by_cases h3 : kl = .int .i64 3
   · exact .inl h3
   · unfold two at h; rw [Maps.has_put_other h2, Maps.has_put_other h3] at h; cases h
theorem two_at3 (v3 v2 : Value) (z : DataW Value) : (two v3 v2).atKey (.int .i64 3) z = .held v3 := by
 unfold two; rw [Maps.atKey_put_other (fun h => by cases h), Maps.atKey_put_same (k := .int .i64 3) two_map0 trivial]
theorem two_at2 (v3 v2 : Value) (z : DataW Value) : (two v3 v2).atKey (.int .i64 2) z = .held v2 := by
 exact Maps.atKey_put_same (k := .int .i64 2) ⟨_, rfl⟩ trivial _ _
theorem blk_grownM {w w' : World} {row : Option Nat} {g : Nat} {o : Obj} (h : w.heap[g]? = some o) (hg : w.grownBy w' row) (hne : row ≠ some g) : w'.heap[g]? = some o := by
 have hlt : g < w.heap.size := blk_lt h; rw [hg.block g hlt (fun e => hne e.symm)]; exact h
theorem grown_of_below {w w' : World} (h : Below w.heap.size w w') : w.grownBy w' none := ⟨h.os, h.tape, h.output, h.size, fun i hi _ => h.block i hi⟩
theorem below_of_grown {w w' : World} (h : w.grownBy w' none) : Below w.heap.size w w' := (Below.refl _ w).grown h (Nat.le_refl _) (fun k hk => by cases hk)
end Go.Proofs.YtkocahlifffgjaaGreat.P
namespace Go.Proofs.YtkocahlifffgjaaGreat.P
open Go.RowKit Go.Proofs.YtkocahlifffgjaaGreatW.PrintWords Go.Proofs.YtkocahlifffgjaaGreatW.PrintLast Go.Proofs.YtkocahlifffgjaaGreatW.PrintMore
set_option linter.unusedVariables false
set_option linter.unusedSimpArgs false
set_option maxHeartbeats 2000000 in
theorem pred_two (w : World) : PredL 51 #[] (fun f => (f.length : Int) != 2) w := fun W x A c hb hc hr => by
 show Calls Tryz.prog 51 #[.slice A x.length c] W fun e w' => e = .returned (.bool ((x.length : Int) != 2)) ∧ Below W.heap.size W w'
 clear hb hr; generalize x.length = n at hc; go_enter Tryz.func51, Tryz.ntmps51; go_wp2; go_ret; exact ⟨rfl, Below.refl _ _⟩
def impl_isBinary.f (a0_0 a0_1 : Int) (l0_2 l0_3 : List (List Int)) (l0_4 : List Int) (l0_5 : List (List Int)) : Option Bool := some (goodB a0_0 a0_1 l0_2 l0_3 l0_4 l0_5)
set_option maxHeartbeats 4000000 in
set_option maxRecDepth 100000 in
theorem impl_isBinary.calls (a0_0 a0_1 : Int) (A0_2 : Option Addr) (c0_2 : Nat) (l0_2 : List (List Int)) (A0_3 : Option Addr) (c0_3 : Nat) (l0_3 : List (List Int)) (A0_4 : Option Addr) (c0_4 : Nat) (l0_4 : List Int) (A0_5 : Option Addr) (c0_5 : Nat) (l0_5 : List (List Int)) (r : Bool) (w : World)
 (hr0_2 : Kd.C (Kd.slice 3 (Kd.int .i64)) w A0_2 l0_2.length l0_2) (hc0_2 : l0_2.length ≤ c0_2) (hr0_3 : Kd.C (Kd.slice 3 (Kd.int .i64)) w A0_3 l0_3.length l0_3) (hc0_3 : l0_3.length ≤ c0_3) (hr0_4 : Kd.C (Kd.int .i64) w A0_4 l0_4.length l0_4) (hc0_4 : l0_4.length ≤ c0_4) (hr0_5 : Kd.C (Kd.slice 3 (Kd.int .i64)) w A0_5 l0_5.length l0_5) (hc0_5 : l0_5.length ≤ c0_5)
 (h : impl_isBinary.f a0_0 a0_1 l0_2 l0_3 l0_4 l0_5 = some r) :
 Calls Tryz.prog 29 #[.agg #[.int .i64 a0_0, .int .i64 a0_1, .slice A0_2 l0_2.length c0_2, .slice A0_3 l0_3.length c0_3, .slice A0_4 l0_4.length c0_4, .slice A0_5 l0_5.length c0_5]] w fun e w' => e = .returned (.bool r) ∧ Below w.heap.size w w' := by
 have hu := Tryz.underlying32; obtain rfl := Option.some.inj h; clear h; have hm4 : l0_4.length ≤ 9223372036854775807 := hr0_4.2.1; have hm5 : l0_5.length ≤ 9223372036854775807 := hr0_5.2.1; have hrise := zA (areRising_eq l0_4 a0_0 hm4 (l0_4.length + 1) zz1g); have eg : ∀ args w, (callFunc 51 args).run Tryz.prog w = .ok (.enter 51 args) w := enters_of Tryz.func51 zz1c rfl; have HB := zA (Below.refl w.heap.size w); by_cases h1 : 1 ≤ a0_0 ∧ a0_0 ≤ 40
 · have I0 := zA (show impl_in.f a0_0 1 40 = some true by rw [impl_in_eq, decide_eq_true h1]); have H1 := zA h1; by_cases h2 : 1 ≤ a0_1 ∧ a0_1 ≤ 4
   · have I1 := zA (show impl_in.f a0_1 1 4 = some true by rw [impl_in_eq, decide_eq_true h2]); have H2 := zA h2; clear h2; cases h3 : riseF 0 (wrap64 (a0_0 - 1)) none l0_4 with
     | true =>
      have I2 := zA (show impl_areRising.f (l0_4.length + 1) l0_4 a0_0 = some true by rw [hrise.out, h3]); have H3 := zA h3; clear h3 hrise; by_cases h4 : (l0_5.length : Int) ≤ a0_0
      · have d4 : decide (a0_0 < (l0_5.length : Int)) = false := decide_eq_false zz1g; have H4 := zA h4; clear h1 h4; have CF := fun (W : World) (hW : Below w.heap.size w W) => containsFunc_row 51 #[] eg (fun f => (f.length : Int) != 2) A0_5 c0_5 l0_5 W (zS hr0_5 hW) hc0_5 (pred_two W)
        clear hr0_5 eg; cases h5 : l0_5.any fun f => (f.length : Int) != 2 with
        | true =>
         rw [h5] at CF; have J := zA (show goodB a0_0 a0_1 l0_2 l0_3 l0_4 l0_5 = false by unfold goodB; rw [h5]; simp); clear h5 hr0_2 hr0_3; go_enter Tryz.func29, Tryz.ntmps29; go_wp2_with (first | ((with_reducible refine gate_dst (N := 1) rfl ?_); refine box_event ?hg (N := 1) ?hd (cs := #[.int .i64 a0_0, .int .i64 a0_1, .slice A0_2 l0_2.length c0_2, .slice A0_3 l0_3.length c0_3, .slice A0_4 l0_4.length c0_4, .slice A0_5 l0_5.length c0_5]) (t := 32) ?hr ?_; (case hd => rfl); (case hg => rfl); (case hr => first | (go_simp; done) | (go_simp; rfl)); intro gb hg w1 hbox hb; have n0_ := zA (zG HB.out hb); have n1_ := zA hbox; clear HB; have HB := n0_; have BK := n1_; have GE := zA (show w.heap.size ≤ gb by rw [hg]; omega); clear n0_ n1_ hb hbox hg; have hx0 : w1.cell? ⟨gb, 0, none⟩ = some (.int .i64 a0_0) := (zK BK.out 0).trans rfl; have hx1 : w1.cell? ⟨gb, 1, none⟩ = some (.int .i64 a0_1) := (zK BK.out 1).trans rfl; have hx2 : w1.cell? ⟨gb, 2, none⟩ = some (.slice A0_2 l0_2.length c0_2) := (zK BK.out 2).trans rfl; have hx3 : w1.cell? ⟨gb, 3, none⟩ = some (.slice A0_3 l0_3.length c0_3) := (zK BK.out 3).trans rfl; have hx4 : w1.cell? ⟨gb, 4, none⟩ = some (.slice A0_4 l0_4.length c0_4) := (zK BK.out 4).trans rfl; have hx5 : w1.cell? ⟨gb, 5, none⟩ = some (.slice A0_5 l0_5.length c0_5) := (zK BK.out 5).trans rfl) | (go_at_call 48; (with_reducible refine (impl_in.calls a0_0 1 40 true _ I0.out).mono ?_); rintro e w' ⟨rfl, ⟨nd, rfl⟩⟩) | (go_at_call 48; (with_reducible refine (impl_in.calls a0_1 1 4 true _ I1.out).mono ?_); rintro e w' ⟨rfl, ⟨nd, rfl⟩⟩) | (go_at_call 49; (with_reducible refine (impl_areRising.calls (l0_4.length + 1) A0_4 c0_4 l0_4 a0_0 true _ (zS hr0_4 (zz0q HB)) hc0_4 I2.out).mono ?_); rintro e w' ⟨rfl, ⟨nd, rfl⟩⟩) | (go_at_call 50; refine (CF _ (zz0q HB)).mono ?_; rintro e w2 ⟨rfl, hb'⟩; have n0_ := zA (zG (zz0q HB) hb'); have n1_ := zA (zM (zz0s BK) hb'); clear HB BK hb' hx0 hx1 hx2 hx3 hx4 hx5; have HB := n0_; have BK := n1_; clear n0_ n1_; have hx0 : w2.cell? ⟨gb, 0, none⟩ = some (.int .i64 a0_0) := (zK BK.out 0).trans rfl; have hx1 : w2.cell? ⟨gb, 1, none⟩ = some (.int .i64 a0_1) := (zK BK.out 1).trans rfl; have hx2 : w2.cell? ⟨gb, 2, none⟩ = some (.slice A0_2 l0_2.length c0_2) := (zK BK.out 2).trans rfl; have hx3 : w2.cell? ⟨gb, 3, none⟩ = some (.slice A0_3 l0_3.length c0_3) := (zK BK.out 3).trans rfl; have hx4 : w2.cell? ⟨gb, 4, none⟩ = some (.slice A0_4 l0_4.length c0_4) := (zK BK.out 4).trans rfl; have hx5 : w2.cell? ⟨gb, 5, none⟩ = some (.slice A0_5 l0_5.length c0_5) := (zK BK.out 5).trans rfl)); go_ret; exact ⟨zz1a J, (zz0q HB)⟩
        | false =>
         rw [h5] at CF; have GB := zA (show goodB a0_0 a0_1 l0_2 l0_3 l0_4 l0_5 = (listsF a0_0 a0_1 3 none l0_2 && listsF a0_0 a0_1 2 none l0_3) by unfold goodB; rw [h5, H3.out, decide_eq_true H1.out, decide_eq_true H2.out, decide_eq_true H4.out]; rfl); clear h5; have HR2 := zA hr0_2; have HR3 := zA hr0_3; have HC2 := zA hc0_2; have HC3 := zA hc0_3; have hm2 : l0_2.length ≤ 9223372036854775807 := hr0_2.2.1; have hm3 : l0_3.length ≤ 9223372036854775807 := hr0_3.2.1; clear hr0_2 hr0_3 hc0_2 hc0_3; go_enter Tryz.func29, Tryz.ntmps29
         go_upto_region 3 with (first | ((with_reducible refine gate_dst (N := 1) rfl ?_); refine box_event ?hg (N := 1) ?hd (cs := #[.int .i64 a0_0, .int .i64 a0_1, .slice A0_2 l0_2.length c0_2, .slice A0_3 l0_3.length c0_3, .slice A0_4 l0_4.length c0_4, .slice A0_5 l0_5.length c0_5]) (t := 32) ?hr ?_; (case hd => rfl); (case hg => rfl); (case hr => first | (go_simp; done) | (go_simp; rfl)); intro gb hg w1 hbox hb; have n0_ := zA (zG HB.out hb); have n1_ := zA hbox; clear HB; have HB := n0_; have BK := n1_; have GE := zA (show w.heap.size ≤ gb by rw [hg]; omega); clear n0_ n1_ hb hbox hg; have hx0 : w1.cell? ⟨gb, 0, none⟩ = some (.int .i64 a0_0) := (zK BK.out 0).trans rfl; have hx1 : w1.cell? ⟨gb, 1, none⟩ = some (.int .i64 a0_1) := (zK BK.out 1).trans rfl; have hx2 : w1.cell? ⟨gb, 2, none⟩ = some (.slice A0_2 l0_2.length c0_2) := (zK BK.out 2).trans rfl; have hx3 : w1.cell? ⟨gb, 3, none⟩ = some (.slice A0_3 l0_3.length c0_3) := (zK BK.out 3).trans rfl; have hx4 : w1.cell? ⟨gb, 4, none⟩ = some (.slice A0_4 l0_4.length c0_4) := (zK BK.out 4).trans rfl; have hx5 : w1.cell? ⟨gb, 5, none⟩ = some (.slice A0_5 l0_5.length c0_5) := (zK BK.out 5).trans rfl) | (go_at_call 48; (with_reducible refine (impl_in.calls a0_0 1 40 true _ I0.out).mono ?_); rintro e w' ⟨rfl, ⟨nd, rfl⟩⟩) | (go_at_call 48; (with_reducible refine (impl_in.calls a0_1 1 4 true _ I1.out).mono ?_); rintro e w' ⟨rfl, ⟨nd, rfl⟩⟩) | (go_at_call 49; (with_reducible refine (impl_areRising.calls (l0_4.length + 1) A0_4 c0_4 l0_4 a0_0 true _ (zS hr0_4 (zz0q HB)) hc0_4 I2.out).mono ?_); rintro e w' ⟨rfl, ⟨nd, rfl⟩⟩) | (go_at_call 50; refine (CF _ (zz0q HB)).mono ?_; rintro e w2 ⟨rfl, hb'⟩; have n0_ := zA (zG (zz0q HB) hb'); have n1_ := zA (zM (zz0s BK) hb'); clear HB BK hb' hx0 hx1 hx2 hx3 hx4 hx5; have HB := n0_; have BK := n1_; clear n0_ n1_; have hx0 : w2.cell? ⟨gb, 0, none⟩ = some (.int .i64 a0_0) := (zK BK.out 0).trans rfl; have hx1 : w2.cell? ⟨gb, 1, none⟩ = some (.int .i64 a0_1) := (zK BK.out 1).trans rfl; have hx2 : w2.cell? ⟨gb, 2, none⟩ = some (.slice A0_2 l0_2.length c0_2) := (zK BK.out 2).trans rfl; have hx3 : w2.cell? ⟨gb, 3, none⟩ = some (.slice A0_3 l0_3.length c0_3) := (zK BK.out 3).trans rfl; have hx4 : w2.cell? ⟨gb, 4, none⟩ = some (.slice A0_4 l0_4.length c0_4) := (zK BK.out 4).trans rfl; have hx5 : w2.cell? ⟨gb, 5, none⟩ = some (.slice A0_5 l0_5.length c0_5) := (zK BK.out 5).trans rfl))
         clear CF d4; have tok0 : True := trivial; go_wp2_with (first | (have _t := tok0; (with_reducible refine made_event rfl 68 3 rfl ?_); intro bm hbm w3 hown hgr; clear tok0; have NE := zA (show bm ≠ gb by rw [hbm]; exact Nat.ne_of_gt (blk_lt BK.out)); have GM := zA (show w.heap.size ≤ bm by rw [hbm]; exact zF HB.out); have n0_ := zA (blk_grownM BK.out hgr (by intro h_; cases h_)); have n1_ := zA (HB.out.grown hgr (zF HB.out) (fun k hk => by cases hk)); clear BK HB hgr hbm hx0 hx1 hx2 hx3 hx4 hx5; have BK := n0_; have HB := n1_; clear n0_ n1_; have OW := zA hown; clear hown; have tok1 : True := trivial; have hx0 : w3.cell? ⟨gb, 0, none⟩ = some (.int .i64 a0_0) := (zK BK.out 0).trans rfl; have hx1 : w3.cell? ⟨gb, 1, none⟩ = some (.int .i64 a0_1) := (zK BK.out 1).trans rfl; have hx2 : w3.cell? ⟨gb, 2, none⟩ = some (.slice A0_2 l0_2.length c0_2) := (zK BK.out 2).trans rfl; have hx3 : w3.cell? ⟨gb, 3, none⟩ = some (.slice A0_3 l0_3.length c0_3) := (zK BK.out 3).trans rfl; have hx4 : w3.cell? ⟨gb, 4, none⟩ = some (.slice A0_4 l0_4.length c0_4) := (zK BK.out 4).trans rfl; have hx5 : w3.cell? ⟨gb, 5, none⟩ = some (.slice A0_5 l0_5.length c0_5) := (zK BK.out 5).trans rfl) | (have _t := tok1; (with_reducible refine insert_event rfl _ _ _ 68 rfl 3 22 (Go.Maps.int_keyed Tryz.underlying3) Tryz.underlying68 bm 0 (.map []) rfl OW.out ?hn (.int .i64 3) (.slice A0_2 l0_2.length c0_2) (.int .i64 3) rfl rfl ?hk ?_); (case hn => decide); (case hk => exact Go.Maps.keyOf_int_mk Tryz.underlying3 zz1f); intro w4 hown hgr; clear tok1 OW; have n0_ := zA (blk_grownM BK.out hgr (fun h_ => NE.out (Option.some.inj h_))); have n1_ := zA (HB.out.grown hgr (zF HB.out) (fun k hk => by cases hk; exact GM.out)); clear BK HB hgr hx0 hx1 hx2 hx3 hx4 hx5; have BK := n0_; have HB := n1_; clear n0_ n1_; have OW := zA hown; clear hown; have tok2 : True := trivial; have hx0 : w4.cell? ⟨gb, 0, none⟩ = some (.int .i64 a0_0) := (zK BK.out 0).trans rfl; have hx1 : w4.cell? ⟨gb, 1, none⟩ = some (.int .i64 a0_1) := (zK BK.out 1).trans rfl; have hx2 : w4.cell? ⟨gb, 2, none⟩ = some (.slice A0_2 l0_2.length c0_2) := (zK BK.out 2).trans rfl; have hx3 : w4.cell? ⟨gb, 3, none⟩ = some (.slice A0_3 l0_3.length c0_3) := (zK BK.out 3).trans rfl; have hx4 : w4.cell? ⟨gb, 4, none⟩ = some (.slice A0_4 l0_4.length c0_4) := (zK BK.out 4).trans rfl; have hx5 : w4.cell? ⟨gb, 5, none⟩ = some (.slice A0_5 l0_5.length c0_5) := (zK BK.out 5).trans rfl) | (have _t := tok2; (with_reducible refine insert_event rfl _ _ _ 68 rfl 3 22 (Go.Maps.int_keyed Tryz.underlying3) Tryz.underlying68 bm 1 ((DataW.map []).put (.int .i64 3) (.held (.slice A0_2 l0_2.length c0_2))) rfl OW.out ?hn (.int .i64 2) (.slice A0_3 l0_3.length c0_3) (.int .i64 2) rfl rfl ?hk ?_); (case hn => decide); (case hk => exact Go.Maps.keyOf_int_mk Tryz.underlying3 zz1f); intro w5 hown hgr; clear tok2 OW; have n0_ := zA (blk_grownM BK.out hgr (fun h_ => NE.out (Option.some.inj h_))); have n1_ := zA (HB.out.grown hgr (zF HB.out) (fun k hk => by cases hk; exact GM.out)); clear BK HB hgr hx0 hx1 hx2 hx3 hx4 hx5; have BK := n0_; have HB := n1_; clear n0_ n1_; have OW := zA hown; clear hown; have tok3 : True := trivial; have hx0 : w5.cell? ⟨gb, 0, none⟩ = some (.int .i64 a0_0) := (zK BK.out 0).trans rfl; have hx1 : w5.cell? ⟨gb, 1, none⟩ = some (.int .i64 a0_1) := (zK BK.out 1).trans rfl; have hx2 : w5.cell? ⟨gb, 2, none⟩ = some (.slice A0_2 l0_2.length c0_2) := (zK BK.out 2).trans rfl; have hx3 : w5.cell? ⟨gb, 3, none⟩ = some (.slice A0_3 l0_3.length c0_3) := (zK BK.out 3).trans rfl; have hx4 : w5.cell? ⟨gb, 4, none⟩ = some (.slice A0_4 l0_4.length c0_4) := (zK BK.out 4).trans rfl; have hx5 : w5.cell? ⟨gb, 5, none⟩ = some (.slice A0_5 l0_5.length c0_5) := (zK BK.out 5).trans rfl) | (have _t := tok3; at_range; refine wpList_range_own _ rfl _ 68 rfl 3 22 (Go.Maps.int_keyed Tryz.underlying3) Tryz.underlying68 asIs bm 2 (two (.slice A0_2 l0_2.length c0_2) (.slice A0_3 l0_3.length c0_3)) rfl OW.out ?_; intro w6 hrg0 hg0 hs0; clear tok3) | go_in)
         go_frame
         have NR := zA (show w5.heap.size ≠ gb from Nat.ne_of_gt (blk_lt BK.out)); have n0_ := zA (blk_grownM BK.out hg0 (by intro h_; cases h_)); have n1_ := zA (HB.out.grown hg0 (zF HB.out) (fun k hk => by cases hk)); have GR := zA (zF HB.out); clear BK HB hg0 hs0 OW hx0 hx1 hx2 hx3 hx4 hx5; have BK := n0_; have HB := n1_; clear n0_ n1_; generalize w5.heap.size = rr at hrg0 NR GR; go_loopg [45] 2 (fun gg _ wr => ∃ (left : Lit → Bool) (cnt : Nat), wr.ranges Tryz.prog 3 asIs bm rr 2 (two (.slice A0_2 l0_2.length c0_2) (.slice A0_3 l0_3.length c0_3)) left cnt ∧ cnt ≤ gg ∧ Aside0 (∀ kl, left kl = true → kl = .int .i64 3 ∨ kl = .int .i64 2) ∧ Aside0 (left (.int .i64 3) = false → listsF a0_0 a0_1 3 none l0_2 = true) ∧ Aside0 (left (.int .i64 2) = false → listsF a0_0 a0_1 2 none l0_3 = true) ∧ Aside0 (wr.heap[gb]? = some (.cells #[.int .i64 a0_0, .int .i64 a0_1, .slice A0_2 l0_2.length c0_2, .slice A0_3 l0_3.length c0_3, .slice A0_4 l0_4.length c0_4, .slice A0_5 l0_5.length c0_5] 32 (0, 0))) ∧ Aside0 (Below w.heap.size w wr))
         case atStart => exact ⟨_, _, hrg0, by have := hrg0.owns.size_le; simpa using this, ⟨fun kl h => two_keys _ _ kl h⟩, ⟨fun h => by cases h⟩, ⟨fun h => by cases h⟩, BK, HB⟩
         case round =>
          clear hrg0 BK HB; obtain ⟨left, cnt, hrg, hcnt, SUB, D3, D2, BK, HB⟩ := hrel; have HRG := zA hrg; clear hrg; go_wp2_with (first | (at_next; refine wpList_next_ranges _ rfl _ rfl 3 (Go.Maps.int_keyed Tryz.underlying3) asIs (Value.int .i64) (fun v_ : Value => v_) ?hik ?hiv bm rr 2 (two (.slice A0_2 l0_2.length c0_2) (.slice A0_3 l0_3.length c0_3)) left cnt rfl HRG.out ?_ ?_) | go_in)
          case hik => exact fun key kl hk => by obtain ⟨x, h, _⟩ := Go.Maps.keyOf_int_inv Tryz.underlying3 hk; exact ⟨x, h⟩
          case hiv => exact fun v y _ => ⟨v, rfl⟩
          · intro hc0 hl0; have E3 := zA (D3.out (hl0 _)); have E2 := zA (D2.out (hl0 _)); clear hl0; go_wp2; go_ret; exact ⟨by rw [GB.out, E3.out, E2.out]; rfl, HB.out⟩
          · intro x c kl ya yb w1 cnt1 hkey hlk hv hat hrg1 hlt hg1 hs1 hen; obtain ⟨x', ex', ekl, hwx⟩ := Go.Maps.keyOf_int_inv Tryz.underlying3 hkey; cases ex'; have hyc : ya = .held c := (congrArg Prod.fst (Option.some.inj hv)).symm; have hat2 := hat (.held c); rw [hyc] at hat2; have key : ∃ (A : Option Addr) (cl : Nat) (l : List (List Int)), c = .slice A l.length cl ∧ Kd.C (Kd.slice 3 (Kd.int .i64)) w A l.length l ∧ l.length ≤ cl ∧ (listsF a0_0 a0_1 x none l = false → goodB a0_0 a0_1 l0_2 l0_3 l0_4 l0_5 = false) ∧ (listsF a0_0 a0_1 x none l = true → ((left (.int .i64 3) && !(Lit.int .i64 3).sameKey kl) = false → listsF a0_0 a0_1 3 none l0_2 = true) ∧ ((left (.int .i64 2) && !(Lit.int .i64 2).sameKey kl) = false → listsF a0_0 a0_1 2 none l0_3 = true)) := by
             rcases SUB.out kl hlk with h_ | h_
             · rw [h_] at ekl hat2 ⊢; rw [two_at3] at hat2; injection ekl with _ ex; injection hat2 with hc_; refine ⟨A0_2, c0_2, l0_2, hc_.symm, HR2.out, HC2.out, fun h => by rw [GB.out]; rw [← ex] at h; rw [h, Bool.false_and], fun h => ⟨fun _ => by rw [ex]; exact h, fun h2 => D2.out (by simpa [Lit.sameKey] using h2)⟩⟩
             · rw [h_] at ekl hat2 ⊢; rw [two_at2] at hat2; injection ekl with _ ex; injection hat2 with hc_; refine ⟨A0_3, c0_3, l0_3, hc_.symm, HR3.out, HC3.out, fun h => by rw [GB.out]; rw [← ex] at h; rw [h, Bool.and_false], fun h => ⟨fun h2 => D3.out (by simpa [Lit.sameKey] using h2), fun _ => by rw [ex]; exact h⟩⟩
            obtain ⟨A, cl, l, hc, hrl, hcl, hno, hyes⟩ := key; subst hc; have NO := zA hno; have YES := zA hyes; have HRL := zA hrl; have HRG1 := zA hrg1; have SUB1 := zA (show ∀ z, (left z && !z.sameKey kl) = true → z = .int .i64 3 ∨ z = .int .i64 2 from fun z hz => SUB.out z (by rw [Bool.and_eq_true] at hz; exact hz.1)); have SUBX := zA (show x = 3 ∨ x = 2 by rcases SUB.out kl hlk with h_ | h_ <;> (rw [h_] at ekl; injection ekl with _ ex; omega)); have hml : l.length ≤ 9223372036854775807 := hrl.2.1; have n0_ := zA (blk_grownM BK.out hg1 (fun h_ => NR.out (Option.some.inj h_))); have n1_ := zA (HB.out.grown hg1 (zF HB.out) (fun k hk => by cases hk; exact GR.out)); clear hno hyes hrl hrg1 SUB D3 D2 HRG hkey hlk hv hat hat2 hyc hwx hg1 hs1 BK HB ekl; have BK := n0_; have HB := n1_; clear n0_ n1_; go_wp2; go_loopg [52] l.length (fun gg s52 wr => ∃ kk : Nat, kk ≤ l.length ∧ l.length - kk ≤ gg ∧ s52 = .int .i64 kk ∧ Aside0 (listsF a0_0 a0_1 x none l = listsF a0_0 a0_1 x (prevL l kk) (l.drop kk)) ∧ Aside0 (wr.heap[gb]? = some (.cells #[.int .i64 a0_0, .int .i64 a0_1, .slice A0_2 l0_2.length c0_2, .slice A0_3 l0_3.length c0_3, .slice A0_4 l0_4.length c0_4, .slice A0_5 l0_5.length c0_5] 32 (0, 0))) ∧ Aside0 (Below w1.heap.size w1 wr) ∧ Aside0 (Below w.heap.size w wr))
            case atStart => exact ⟨0, Nat.zero_le _, zz1g, rfl, ⟨rfl⟩, BK, ⟨Below.refl _ _⟩, HB⟩
            case round =>
             clear BK HB hen; obtain ⟨kk, hkk, hg, rfl, R, BK, B1, HB⟩ := hrel; by_cases hlt : kk < l.length
             · have hd : decide (kk < l.length) = true := decide_eq_true hlt; obtain ⟨ad, A1, c1, e, hx0, hl1, hi1⟩ := at_L1 HRL.out (kk : Int) zz1g zz1g; subst e; have hx1 : wr.cell? (ad.add kk) = some (.slice A1 (rd_L1 l kk).length c1) := (HB.out.cell (World.block_lt_of_cell? w _ zz19)).trans zz19; have OKD := zA (show listsF a0_0 a0_1 x (prevL l kk) (l.drop kk) = (rowOk a0_0 a0_1 x (rd_L1 l kk) && ((match prevL l kk with | none => true | some z => decide (cmpL z (rd_L1 l kk) < 0)) && listsF a0_0 a0_1 x (prevL l (kk + 1)) (l.drop (kk + 1)))) by rw [getD_drop l kk [] hlt]; cases kk <;> rfl); have HI := zA (zS hi1 HB.out); have HL := zA hl1; have hmy : (rd_L1 l kk).length ≤ 9223372036854775807 := hi1.2.1; have L := zA hlt; have PRV := zA (show ∀ m, kk = m + 1 → prevL l kk = some (rd_L1 l m) from fun m hm => by rw [hm]; rfl); clear hx0 hi1 hl1; generalize rd_L1 l kk = y at hx1 OKD HI HL hmy
               go_upto_region 9 with fail
               have q0 := Later.cell (w := wr) (a := ⟨gb, 0, none⟩) (v := .int .i64 a0_0) ((zK BK.out 0).trans rfl); have q1 := Later.cell (w := wr) (a := ⟨gb, 1, none⟩) (v := .int .i64 a0_1) ((zK BK.out 1).trans rfl); clear hx1; by_cases h1 : (y.length : Int) = x
               · have e1 : ((y.length : Int) != x) = false := by rw [h1]; simp
                 have hpos : 0 < y.length := by rcases SUBX.out with h_ | h_ <;> omega
                 obtain ⟨ay, e, hy0⟩ := Kd.at_int HI.out 0 zz1g zz1g; subst e; rw [show ((0 : Int)).toNat = 0 from rfl, Addr.add_zero'] at hy0; have q2 := Later.cell hy0; have hlp : (0 < y.length) = True := eq_true hpos; clear hy0; have H1x := zA h1; clear h1; by_cases h2 : 0 ≤ rd y 0 ∧ rd y 0 ≤ wrap64 (a0_0 - 1)
                 · have J1 := zA (show impl_in.f (rd y 0) 0 (wrap64 (a0_0 - 1)) = some true by rw [impl_in_eq, decide_eq_true h2]); have H2x := zA h2; clear h2; obtain ⟨i0, hi0, _, hsz0, _⟩ := info_parts info3; have hcut0 := cut_from (P := Tryz.prog) 23 3 .i64 Tryz.underlying23 hi0 1 hsz0 (some ay) y.length c1 1 zz1g zz1g; have HI90 := Kd.C_drop (m := 1) HI.out zz1g HL.out; obtain ⟨A9, hA9⟩ : ∃ A9 : Option Addr, A9 = (if c1 = 1 then some ay else (some ay).map (·.add (1 * 1))) := ⟨_, rfl⟩
                   have hcut : ∀ W : World, (Instr.slice 23 (.slice (some ay) y.length c1) (some (.int .i64 1)) none none).run Tryz.prog W = .ok (.slice A9 (y.length - 1) (c1 - 1)) W := fun W => by rw [hcut0 W, hA9]; rfl
                   have HI9 := zA (show Kd.C (Kd.int .i64) wr A9 (y.drop 1).length (y.drop 1) by rw [hA9]; exact HI90); have HL9 := zA (show (y.drop 1).length ≤ c1 - 1 by rw [List.length_drop]; have := HL.out; omega); clear hcut0 HI90 hA9 hi0 hsz0; cases h3 : (y.drop 1).any fun x => !symB a0_0 a0_1 x with
                   | true =>
                    have J3 := zA (show impl_areSymbols.f (y.drop 1) a0_0 a0_1 = some false by unfold impl_areSymbols.f; rw [h3]; rfl); have SY := fun (W : World) (hW : Below wr.heap.size wr W) => impl_areSymbols.calls A9 (c1 - 1) (y.drop 1) a0_0 a0_1 false W (zS HI9.out hW) HL9.out J3.out
                    rw [List.length_drop] at SY; have W3 := zA (show rowOk a0_0 a0_1 x y = false by unfold rowOk; rw [h3]; simp); clear h3; refine wp_region_later zz1c zz1c ?_; (repeat (go_big_quiet_step (first | (go_at_call 48; with_reducible exact Later.callD (impl_in.calls (rd y 0) 0 (wrap64 (a0_0 - 1)) true _ J1.out)) | (go_at_call 52; with_reducible exact Later.call (SY _ (Later.below _)))))); refine wpQuiet_nil ?_; intro w4_ hw4; obtain ⟨⟨w4, hb4⟩, hw4⟩ := hw4; subst hw4; (try dsimp only); have B4 := zA hb4; clear hb4; have J4 := zA (NO.out (by rw [R.out, OKD.out]; rw [W3.out, Bool.false_and])); clear q0 q1 hd; go_wp2; go_ret; exact ⟨zz1a J4, zG HB.out B4.out⟩
                   | false =>
                    have J3 := zA (show impl_areSymbols.f (y.drop 1) a0_0 a0_1 = some true by unfold impl_areSymbols.f; rw [h3]; rfl); have SY := fun (W : World) (hW : Below wr.heap.size wr W) => impl_areSymbols.calls A9 (c1 - 1) (y.drop 1) a0_0 a0_1 true W (zS HI9.out hW) HL9.out J3.out
                    rw [List.length_drop] at SY; have W3 := zA (show rowOk a0_0 a0_1 x y = true by unfold rowOk; rw [h3, decide_eq_true H1x.out, decide_eq_true H2x.out]; rfl); clear h3; cases kk with
                    | zero =>
                     refine wp_region_later zz1c zz1c ?_; (repeat (go_big_quiet_step (first | (go_at_call 48; with_reducible exact Later.callD (impl_in.calls (rd y 0) 0 (wrap64 (a0_0 - 1)) true _ J1.out)) | (go_at_call 52; with_reducible exact Later.call (SY _ (Later.below _)))))); refine wpQuiet_nil ?_; intro w4_ hw4; obtain ⟨⟨w4, hb4⟩, hw4⟩ := hw4; subst hw4; (try dsimp only); have B4 := zA hb4; clear hb4; have J5 := zA (show listsF a0_0 a0_1 x none l = listsF a0_0 a0_1 x (prevL l (0 + 1)) (l.drop (0 + 1)) by rw [R.out, OKD.out]; rw [W3.out]; rfl); clear q0 q1 hd; go_wp2
                     go_roundg (l.length - (0 + 1))
                     case measure => have := L.out; omega
                     case rel => exact ⟨0 + 1, zz18 L, zz1g, zz1e, J5, ⟨zM BK.out B4.out⟩, ⟨zG B1.out B4.out⟩, ⟨zG HB.out B4.out⟩⟩
                    | succ m =>
                     obtain ⟨ad2, A8, c8, e, hz0, hl8, hi8⟩ := at_L1 HRL.out (m : Int) zz1g zz1g; cases e; have q3 := Later.cell (w := wr) (a := ad.add m) (v := .slice A8 (rd_L1 l m).length c8) ((HB.out.cell (World.block_lt_of_cell? w _ (by simpa using hz0))).trans (by simpa using hz0)); have HZ := zA (zS hi8 HB.out); have HZL := zA hl8; have hmz := zA hi8.2.1; have PV2 := zA (PRV.out m rfl); rw [PV2.out] at OKD; clear hz0 hl8 hi8 PRV; generalize rd_L1 l m = z at q3 HZ HZL hmz OKD PV2; have OK2 := zA (show listsF a0_0 a0_1 x (some z) (l.drop (m + 1)) = (rowOk a0_0 a0_1 x y && (decide (cmpL z y < 0) && listsF a0_0 a0_1 x (prevL l (m + 1 + 1)) (l.drop (m + 1 + 1)))) from OKD.out); clear OKD; have OKD := OK2; clear OK2; have J6 := zA (compare_eq z y hmz.out (z.length + 1) zz1g); by_cases h4 : cmpL z y < 0
                     · have e4 : decide (0 ≤ cmpL z y) = false := decide_eq_false zz1g; have W4 := zA (decide_eq_true h4); clear h4; generalize cmpL z y = cz at J6 e4 W4 OKD; have CM := fun (W : World) (hW : Below wr.heap.size wr W) => slices_Compare_int_int.calls (z.length + 1) A8 c8 z (some ay) c1 y cz W (zS HZ.out hW) HZL.out (zS HI.out hW) HL.out J6.out
                       refine wp_region_later zz1c zz1c ?_; (repeat (go_big_quiet_step (first | (go_at_call 48; with_reducible exact Later.callD (impl_in.calls (rd y 0) 0 (wrap64 (a0_0 - 1)) true _ J1.out)) | (go_at_call 52; with_reducible exact Later.call (SY _ (Later.below _))) | (go_at_call 53; with_reducible exact Later.callD (CM _ (Later.below _)))))); refine wpQuiet_nil ?_; intro w4_ hw4; obtain ⟨⟨w4, hb4⟩, hw4⟩ := hw4; subst hw4; (try dsimp only); have B4 := zA hb4; clear hb4; have J5 := zA (show listsF a0_0 a0_1 x none l = listsF a0_0 a0_1 x (prevL l (m + 1 + 1)) (l.drop (m + 1 + 1)) by rw [R.out, PV2.out, OKD.out]; rw [W3.out, W4.out]; rfl); clear q0 q1 hd; go_wp2
                       go_roundg (l.length - (m + 1 + 1))
                       case measure => have := L.out; omega
                       case rel => exact ⟨m + 1 + 1, zz18 L, zz1g, zz1e, J5, ⟨zM BK.out B4.out⟩, ⟨zG B1.out B4.out⟩, ⟨zG HB.out B4.out⟩⟩
                     · have e4 : decide (0 ≤ cmpL z y) = true := decide_eq_true zz1g; have W4 := zA (decide_eq_false h4); clear h4; generalize cmpL z y = cz at J6 e4 W4 OKD; have CM := fun (W : World) (hW : Below wr.heap.size wr W) => slices_Compare_int_int.calls (z.length + 1) A8 c8 z (some ay) c1 y cz W (zS HZ.out hW) HZL.out (zS HI.out hW) HL.out J6.out
                       refine wp_region_later zz1c zz1c ?_; (repeat (go_big_quiet_step (first | (go_at_call 48; with_reducible exact Later.callD (impl_in.calls (rd y 0) 0 (wrap64 (a0_0 - 1)) true _ J1.out)) | (go_at_call 52; with_reducible exact Later.call (SY _ (Later.below _))) | (go_at_call 53; with_reducible exact Later.callD (CM _ (Later.below _)))))); refine wpQuiet_nil ?_; intro w4_ hw4; obtain ⟨⟨w4, hb4⟩, hw4⟩ := hw4; subst hw4; (try dsimp only); have B4 := zA hb4; clear hb4; have J4 := zA (NO.out (by rw [R.out, PV2.out, OKD.out]; rw [W4.out, Bool.false_and, Bool.and_false])); clear q0 q1 hd; go_wp2; go_ret; exact ⟨zz1a J4, zG HB.out B4.out⟩
                 · have J1 := zA (show impl_in.f (rd y 0) 0 (wrap64 (a0_0 - 1)) = some false by rw [impl_in_eq, decide_eq_false h2]); have W3 := zA (show rowOk a0_0 a0_1 x y = false by unfold rowOk; rw [decide_eq_false h2]; simp); clear h2; refine wp_region_later zz1c zz1c ?_; (repeat (go_big_quiet_step (first | (go_at_call 48; with_reducible exact Later.callD (impl_in.calls (rd y 0) 0 (wrap64 (a0_0 - 1)) false _ J1.out))))); refine wpQuiet_nil ?_; intro w4_ hw4; obtain ⟨⟨w4, hb4⟩, hw4⟩ := hw4; subst hw4; (try dsimp only); have B4 := zA hb4; clear hb4; have J4 := zA (NO.out (by rw [R.out, OKD.out]; rw [W3.out, Bool.false_and])); clear q0 q1 hd; go_wp2; go_ret; exact ⟨zz1a J4, zG HB.out B4.out⟩
               · have e1 : ((y.length : Int) != x) = true := by simpa using h1
                 have W3 := zA (show rowOk a0_0 a0_1 x y = false by unfold rowOk; rw [decide_eq_false h1]; simp); clear h1; refine wp_region_later zz1c zz1c ?_; (repeat (go_big_quiet_step (fail))); refine wpQuiet_nil ?_; intro w4_ hw4; obtain ⟨⟨w4, hb4⟩, hw4⟩ := hw4; subst hw4; (try dsimp only); have B4 := zA hb4; clear hb4; have J4 := zA (NO.out (by rw [R.out, OKD.out]; rw [W3.out, Bool.false_and])); clear q0 q1 hd; go_wp2; go_ret; exact ⟨zz1a J4, zG HB.out B4.out⟩
             · have hd : decide (kk < l.length) = false := decide_eq_false hlt; have FIN := zA (YES.out (by rw [R.out, List.drop_of_length_le zz1g]; cases kk <;> rfl)); clear hlt; go_wp2
               go_roundg cnt1
               case measure => omega
               case rel => exact ⟨_, cnt1, HRG1.out.kept (grown_of_below B1.out) zz1h zz1h, Nat.le_refl _, SUB1, ⟨FIN.out.1⟩, ⟨FIN.out.2⟩, BK, HB⟩
      · have d4 : decide (a0_0 < (l0_5.length : Int)) = true := decide_eq_true zz1g; have J := zA (show goodB a0_0 a0_1 l0_2 l0_3 l0_4 l0_5 = false by unfold goodB; rw [decide_eq_false h4]; simp); (try clear hr0_2 hr0_3 hrise eg); go_enter Tryz.func29, Tryz.ntmps29; go_wp2_with (first | ((with_reducible refine gate_dst (N := 1) rfl ?_); refine box_event ?hg (N := 1) ?hd (cs := #[.int .i64 a0_0, .int .i64 a0_1, .slice A0_2 l0_2.length c0_2, .slice A0_3 l0_3.length c0_3, .slice A0_4 l0_4.length c0_4, .slice A0_5 l0_5.length c0_5]) (t := 32) ?hr ?_; (case hd => rfl); (case hg => rfl); (case hr => first | (go_simp; done) | (go_simp; rfl)); intro gb hg w1 hbox hb; have n0_ := zA (zG HB.out hb); have n1_ := zA hbox; clear HB; have HB := n0_; have BK := n1_; have GE := zA (show w.heap.size ≤ gb by rw [hg]; omega); clear n0_ n1_ hb hbox hg; have hx0 : w1.cell? ⟨gb, 0, none⟩ = some (.int .i64 a0_0) := (zK BK.out 0).trans rfl; have hx1 : w1.cell? ⟨gb, 1, none⟩ = some (.int .i64 a0_1) := (zK BK.out 1).trans rfl; have hx2 : w1.cell? ⟨gb, 2, none⟩ = some (.slice A0_2 l0_2.length c0_2) := (zK BK.out 2).trans rfl; have hx3 : w1.cell? ⟨gb, 3, none⟩ = some (.slice A0_3 l0_3.length c0_3) := (zK BK.out 3).trans rfl; have hx4 : w1.cell? ⟨gb, 4, none⟩ = some (.slice A0_4 l0_4.length c0_4) := (zK BK.out 4).trans rfl; have hx5 : w1.cell? ⟨gb, 5, none⟩ = some (.slice A0_5 l0_5.length c0_5) := (zK BK.out 5).trans rfl) | (go_at_call 48; (with_reducible refine (impl_in.calls a0_0 1 40 true _ I0.out).mono ?_); rintro e w' ⟨rfl, ⟨nd, rfl⟩⟩) | (go_at_call 48; (with_reducible refine (impl_in.calls a0_1 1 4 true _ I1.out).mono ?_); rintro e w' ⟨rfl, ⟨nd, rfl⟩⟩) | (go_at_call 49; (with_reducible refine (impl_areRising.calls (l0_4.length + 1) A0_4 c0_4 l0_4 a0_0 true _ (zS hr0_4 (zz0q HB)) hc0_4 I2.out).mono ?_); rintro e w' ⟨rfl, ⟨nd, rfl⟩⟩)); go_ret; exact ⟨zz1a J, (zz0q HB)⟩
     | false =>
      have I2 := zA (show impl_areRising.f (l0_4.length + 1) l0_4 a0_0 = some false by rw [hrise.out, h3]); have J := zA (show goodB a0_0 a0_1 l0_2 l0_3 l0_4 l0_5 = false by unfold goodB; rw [h3]; simp); (try clear hr0_2 hr0_3 hrise eg); go_enter Tryz.func29, Tryz.ntmps29; go_wp2_with (first | ((with_reducible refine gate_dst (N := 1) rfl ?_); refine box_event ?hg (N := 1) ?hd (cs := #[.int .i64 a0_0, .int .i64 a0_1, .slice A0_2 l0_2.length c0_2, .slice A0_3 l0_3.length c0_3, .slice A0_4 l0_4.length c0_4, .slice A0_5 l0_5.length c0_5]) (t := 32) ?hr ?_; (case hd => rfl); (case hg => rfl); (case hr => first | (go_simp; done) | (go_simp; rfl)); intro gb hg w1 hbox hb; have n0_ := zA (zG HB.out hb); have n1_ := zA hbox; clear HB; have HB := n0_; have BK := n1_; have GE := zA (show w.heap.size ≤ gb by rw [hg]; omega); clear n0_ n1_ hb hbox hg; have hx0 : w1.cell? ⟨gb, 0, none⟩ = some (.int .i64 a0_0) := (zK BK.out 0).trans rfl; have hx1 : w1.cell? ⟨gb, 1, none⟩ = some (.int .i64 a0_1) := (zK BK.out 1).trans rfl; have hx2 : w1.cell? ⟨gb, 2, none⟩ = some (.slice A0_2 l0_2.length c0_2) := (zK BK.out 2).trans rfl; have hx3 : w1.cell? ⟨gb, 3, none⟩ = some (.slice A0_3 l0_3.length c0_3) := (zK BK.out 3).trans rfl; have hx4 : w1.cell? ⟨gb, 4, none⟩ = some (.slice A0_4 l0_4.length c0_4) := (zK BK.out 4).trans rfl; have hx5 : w1.cell? ⟨gb, 5, none⟩ = some (.slice A0_5 l0_5.length c0_5) := (zK BK.out 5).trans rfl) | (go_at_call 48; (with_reducible refine (impl_in.calls a0_0 1 40 true _ I0.out).mono ?_); rintro e w' ⟨rfl, ⟨nd, rfl⟩⟩) | (go_at_call 48; (with_reducible refine (impl_in.calls a0_1 1 4 true _ I1.out).mono ?_); rintro e w' ⟨rfl, ⟨nd, rfl⟩⟩) | (go_at_call 49; (with_reducible refine (impl_areRising.calls (l0_4.length + 1) A0_4 c0_4 l0_4 a0_0 false _ (zS hr0_4 (zz0q HB)) hc0_4 I2.out).mono ?_); rintro e w' ⟨rfl, ⟨nd, rfl⟩⟩)); go_ret; exact ⟨zz1a J, (zz0q HB)⟩
   · have I1 := zA (show impl_in.f a0_1 1 4 = some false by rw [impl_in_eq, decide_eq_false h2]); have J := zA (show goodB a0_0 a0_1 l0_2 l0_3 l0_4 l0_5 = false by unfold goodB; rw [decide_eq_false h2]; simp); (try clear hr0_2 hr0_3 hrise eg); go_enter Tryz.func29, Tryz.ntmps29; go_wp2_with (first | ((with_reducible refine gate_dst (N := 1) rfl ?_); refine box_event ?hg (N := 1) ?hd (cs := #[.int .i64 a0_0, .int .i64 a0_1, .slice A0_2 l0_2.length c0_2, .slice A0_3 l0_3.length c0_3, .slice A0_4 l0_4.length c0_4, .slice A0_5 l0_5.length c0_5]) (t := 32) ?hr ?_; (case hd => rfl); (case hg => rfl); (case hr => first | (go_simp; done) | (go_simp; rfl)); intro gb hg w1 hbox hb; have n0_ := zA (zG HB.out hb); have n1_ := zA hbox; clear HB; have HB := n0_; have BK := n1_; have GE := zA (show w.heap.size ≤ gb by rw [hg]; omega); clear n0_ n1_ hb hbox hg; have hx0 : w1.cell? ⟨gb, 0, none⟩ = some (.int .i64 a0_0) := (zK BK.out 0).trans rfl; have hx1 : w1.cell? ⟨gb, 1, none⟩ = some (.int .i64 a0_1) := (zK BK.out 1).trans rfl; have hx2 : w1.cell? ⟨gb, 2, none⟩ = some (.slice A0_2 l0_2.length c0_2) := (zK BK.out 2).trans rfl; have hx3 : w1.cell? ⟨gb, 3, none⟩ = some (.slice A0_3 l0_3.length c0_3) := (zK BK.out 3).trans rfl; have hx4 : w1.cell? ⟨gb, 4, none⟩ = some (.slice A0_4 l0_4.length c0_4) := (zK BK.out 4).trans rfl; have hx5 : w1.cell? ⟨gb, 5, none⟩ = some (.slice A0_5 l0_5.length c0_5) := (zK BK.out 5).trans rfl) | (go_at_call 48; (with_reducible refine (impl_in.calls a0_0 1 40 true _ I0.out).mono ?_); rintro e w' ⟨rfl, ⟨nd, rfl⟩⟩) | (go_at_call 48; (with_reducible refine (impl_in.calls a0_1 1 4 false _ I1.out).mono ?_); rintro e w' ⟨rfl, ⟨nd, rfl⟩⟩)); go_ret; exact ⟨zz1a J, (zz0q HB)⟩
 · have I0 := zA (show impl_in.f a0_0 1 40 = some false by rw [impl_in_eq, decide_eq_false h1]); have J := zA (show goodB a0_0 a0_1 l0_2 l0_3 l0_4 l0_5 = false by unfold goodB; rw [decide_eq_false h1]; simp); (try clear hr0_2 hr0_3 hrise eg); go_enter Tryz.func29, Tryz.ntmps29; go_wp2_with (first | ((with_reducible refine gate_dst (N := 1) rfl ?_); refine box_event ?hg (N := 1) ?hd (cs := #[.int .i64 a0_0, .int .i64 a0_1, .slice A0_2 l0_2.length c0_2, .slice A0_3 l0_3.length c0_3, .slice A0_4 l0_4.length c0_4, .slice A0_5 l0_5.length c0_5]) (t := 32) ?hr ?_; (case hd => rfl); (case hg => rfl); (case hr => first | (go_simp; done) | (go_simp; rfl)); intro gb hg w1 hbox hb; have n0_ := zA (zG HB.out hb); have n1_ := zA hbox; clear HB; have HB := n0_; have BK := n1_; have GE := zA (show w.heap.size ≤ gb by rw [hg]; omega); clear n0_ n1_ hb hbox hg; have hx0 : w1.cell? ⟨gb, 0, none⟩ = some (.int .i64 a0_0) := (zK BK.out 0).trans rfl; have hx1 : w1.cell? ⟨gb, 1, none⟩ = some (.int .i64 a0_1) := (zK BK.out 1).trans rfl; have hx2 : w1.cell? ⟨gb, 2, none⟩ = some (.slice A0_2 l0_2.length c0_2) := (zK BK.out 2).trans rfl; have hx3 : w1.cell? ⟨gb, 3, none⟩ = some (.slice A0_3 l0_3.length c0_3) := (zK BK.out 3).trans rfl; have hx4 : w1.cell? ⟨gb, 4, none⟩ = some (.slice A0_4 l0_4.length c0_4) := (zK BK.out 4).trans rfl; have hx5 : w1.cell? ⟨gb, 5, none⟩ = some (.slice A0_5 l0_5.length c0_5) := (zK BK.out 5).trans rfl) | (go_at_call 48; (with_reducible refine (impl_in.calls a0_0 1 40 false _ I0.out).mono ?_); rintro e w' ⟨rfl, ⟨nd, rfl⟩⟩)); go_ret; exact ⟨zz1a J, (zz0q HB)⟩
end Go.Proofs.YtkocahlifffgjaaGreat.P
