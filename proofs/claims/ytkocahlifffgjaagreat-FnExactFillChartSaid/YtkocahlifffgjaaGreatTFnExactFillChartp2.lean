/- A part of the proofs of some laws of this seat (words of the print and texts of this session, without what these laws do not use). -/
import Derived.Test.YtkocahlifffgjaaGreatTFnExactFillChartp1
import Derived.Test.YtkocahlifffgjaaGreatProg
import Derived.Shelf.SlLaysE
import Derived.Shelf.SlLaysF
import Derived.Shelf.SlLaysM
import Derived.Test.YtkocahlifffgjaaGreatTFnExactFillChartp0
import Derived.Shelf.SortM.Plain
import Derived.Shelf.SortM.SortNone
import Derived.Sort.OwnSortedInts
import Derived.Shelf.SlicesE.Compact
import Derived.Lib.SliceRun
import Derived.Shelf.SlSortCmp.NoneTotal
import Derived.BigQuiet
import Derived.Shelf.Abstract
import Derived.Maps.RangeWalk
namespace Go.Proofs.YtkocahlifffgjaaGreat.P
open Go.RowKit Go.Proofs.YtkocahlifffgjaaGreatW.PrintWords
set_option linter.unusedVariables false
set_option linter.unusedSimpArgs false
theorem rise_ext {α : Type} (lt : α → α → Prop) (irr : ∀ x, ¬ lt x x) (tr : ∀ x y z, lt x y → lt y z → lt x z) : ∀ {a b : List α}, a.Pairwise lt → b.Pairwise lt → (∀ x, x ∈ a ↔ x ∈ b) → a = b
 | [], [], _, _, _ => rfl
 | [], y :: b, _, _, h => absurd ((h y).2 List.mem_cons_self) zz1m
 | x :: a, [], _, _, h => absurd ((h x).1 List.mem_cons_self) zz1m
 | x :: a, y :: b, ha, hb, h => by
  obtain ⟨ha1, ha2⟩ := List.pairwise_cons.1 ha; obtain ⟨hb1, hb2⟩ := List.pairwise_cons.1 hb; have e : x = y := by
   rcases List.mem_cons.1 ((h x).1 List.mem_cons_self) with h1 | h1
   · exact h1
   · rcases List.mem_cons.1 ((h y).2 List.mem_cons_self) with h2 | h2
     · exact h2.symm
     · exact absurd (tr _ _ _ (ha1 y h2) (hb1 x h1)) (irr x)
  subst e; rw [rise_ext lt irr tr ha2 hb2 fun z => ⟨fun hz => ?_, fun hz => ?_⟩]
  · rcases List.mem_cons.1 ((h z).1 (List.mem_cons_of_mem _ hz)) with h1 | h1
    · subst h1; exact absurd (ha1 z hz) (irr z)
    · exact h1
  · rcases List.mem_cons.1 ((h z).2 (List.mem_cons_of_mem _ hz)) with h1 | h1
    · subst h1; exact absurd (hb1 z hz) (irr z)
    · exact h1
def UpI (l : List Int) : Prop := l.Pairwise (· < ·)
theorem upI_ext {a b : List Int} (ha : UpI a) (hb : UpI b) (h : ∀ x, x ∈ a ↔ x ∈ b) : a = b := rise_ext (· < ·) (fun x h => by omega) (fun x y z h1 h2 => by omega) ha hb h
def putI : List Int → Int → List Int
 | [], n => [n]
 | a :: l, n => if a < n then a :: putI l n else if a = n then a :: l else n :: a :: l
theorem mem_putI (l : List Int) (n x : Int) : x ∈ putI l n ↔ x = n ∨ x ∈ l := by
 induction l with
 | nil => simp [putI]
 | cons a l ih =>
  simp only [putI]; by_cases h1 : a < n
  · rw [if_pos h1, List.mem_cons, ih, List.mem_cons]; exact ⟨fun h => h.elim (fun h => .inr (.inl h)) (fun h => h.elim .inl (fun h => .inr (.inr h))), fun h => h.elim (fun h => .inr (.inl h)) (fun h => h.elim .inl (fun h => .inr (.inr h)))⟩
  · rw [if_neg h1]; by_cases h2 : a = n
    · rw [if_pos h2]; subst h2; exact ⟨.inr, fun h => h.elim (fun h => by subst h; exact List.mem_cons_self) id⟩
    · rw [if_neg h2, List.mem_cons]
theorem upI_put (l : List Int) (n : Int) (h : UpI l) : UpI (putI l n) := by
 induction l with
 | nil => exact List.pairwise_singleton _ _
 | cons a l ih =>
  obtain ⟨h1, h2⟩ := List.pairwise_cons.1 h; simp only [putI]; by_cases h3 : a < n
  · rw [if_pos h3]; refine List.pairwise_cons.2 ⟨fun x hx => ?_, ih h2⟩; rcases (mem_putI l n x).1 hx with h4 | h4
    · omega
    · exact h1 x h4
  · rw [if_neg h3]; by_cases h4 : a = n
    · rw [if_pos h4]; exact h
    · rw [if_neg h4]; refine List.pairwise_cons.2 ⟨fun x hx => ?_, h⟩; rcases List.mem_cons.1 hx with h5 | h5
      · omega
      · have := h1 x h5; omega
theorem putI_len (l : List Int) (n : Int) : (putI l n).length ≤ l.length + 1 := by
 induction l with
 | nil => simp [putI]
 | cons a l ih =>
  simp only [putI]
  split
  · simp; omega
  · split <;> simp
def sortI (l : List Int) : List Int := l.foldl putI []
theorem foldI_ok (l : List Int) : ∀ a, UpI a → UpI (l.foldl putI a) ∧ ∀ x, x ∈ l.foldl putI a ↔ x ∈ l ∨ x ∈ a := by
 induction l with
 | nil => intro a h; exact ⟨h, fun x => by simp⟩
 | cons b l ih =>
  intro a h; obtain ⟨h1, h2⟩ := ih (putI a b) (upI_put a b h); refine ⟨h1, fun x => (h2 x).trans ?_⟩; rw [mem_putI, List.mem_cons]; exact ⟨fun h => h.elim (fun h => .inl (.inr h)) (fun h => h.elim (fun h => .inl (.inl h)) .inr), fun h => h.elim (fun h => h.elim (fun h => .inr (.inl h)) .inl) (fun h => .inr (.inr h))⟩
theorem sortI_up (l) : UpI (sortI l) := (foldI_ok l [] List.Pairwise.nil).1
theorem mem_sortI (l x) : x ∈ sortI l ↔ x ∈ l := ((foldI_ok l [] List.Pairwise.nil).2 x).trans zz1m
theorem upI_of {a l : List Int} (ha : UpI a) (h : ∀ x, x ∈ a ↔ x ∈ l) : a = sortI l := upI_ext ha (sortI_up l) fun x => (h x).trans (mem_sortI l x).symm
theorem upI_len (l : List Int) : ∀ lo hi : Int, UpI l → (∀ x, x ∈ l → lo ≤ x ∧ x < hi) → lo ≤ hi → (l.length : Int) ≤ hi - lo := by
 induction l with
 | nil => intro lo hi _ _ h; simp; omega
 | cons a l ih =>
  intro lo hi h hb hle; obtain ⟨h1, h2⟩ := List.pairwise_cons.1 h; have ha := hb a List.mem_cons_self; have := ih (a + 1) hi h2 (fun x hx => ⟨by have := h1 x hx; omega, (hb x (List.mem_cons_of_mem _ hx)).2⟩) zz1l; simp only [List.length_cons]; omega
inductive UpR (ps : List (List Int)) (S : Int → Prop) : Int → Prop
 | base {x : Int} : S x → UpR ps S x
 | step {p : List Int} : p ∈ ps → UpR ps S (rd p 1) → UpR ps S (rd p 0)
theorem UpR.least {ps : List (List Int)} {S T : Int → Prop} (h : ∀ x, S x → T x) (hc : ∀ p, p ∈ ps → T (rd p 1) → T (rd p 0)) {x : Int} (hx : UpR ps S x) : T x := by
 induction hx with
 | base h1 => exact h _ h1
 | step h1 _ ih => exact hc _ h1 ih
theorem UpR.mono {ps : List (List Int)} {S T : Int → Prop} (h : ∀ x, S x → T x) {x : Int} (hx : UpR ps S x) : UpR ps T x := hx.least (fun x hx => .base (h x hx)) (fun p hp h => .step hp h)
theorem UpR.one {ps : List (List Int)} {S : Int → Prop} {x : Int} : UpR ps S x ↔ ∃ y, S y ∧ UpR ps (· = y) x :=
 ⟨fun h => h.least (T := fun x => ∃ y, S y ∧ UpR ps (· = y) x) (fun x hx => ⟨x, hx, .base rfl⟩) (fun p hp ⟨y, hy, h⟩ => ⟨y, hy, .step hp h⟩), fun ⟨y, hy, h⟩ => h.mono fun x hx => by rw [hx]; exact hy⟩
theorem cmpL_self : ∀ l, cmpL l l = 0
 | [] => rfl
 | a :: l => by simp only [cmpL]; rw [if_neg zz1l, if_neg zz1l]; exact cmpL_self l
theorem cmpL_eq : ∀ l m, cmpL l m = 0 → l = m
 | [], [], _ => rfl
 | [], _ :: _, h => absurd h (by simp [cmpL])
 | _ :: _, [], h => absurd h (by simp [cmpL])
 | a :: l, b :: m, h => by
  simp only [cmpL] at h; by_cases h1 : a < b
  · rw [if_pos h1] at h; exact absurd h zz1k
  · by_cases h2 : b < a
    · rw [if_neg h1, if_pos h2] at h; exact absurd h zz1k
    · rw [if_neg h1, if_neg h2] at h; rw [cmpL_eq l m h, show a = b by omega]
theorem cmpL_neg : ∀ l m, cmpL m l = - cmpL l m
 | [], [] => rfl
 | [], _ :: _ => rfl
 | _ :: _, [] => rfl
 | a :: l, b :: m => by
  simp only [cmpL]; by_cases h1 : a < b
  · rw [if_neg zz1l, if_pos h1, if_pos h1]; rfl
  · by_cases h2 : b < a
    · rw [if_pos h2, if_neg h1, if_pos h2]
    · rw [if_neg h2, if_neg h1, if_neg h1, if_neg h2, cmpL_neg l m]
theorem cmpL_trans : ∀ (a b c : List Int), cmpL a b < 0 → cmpL b c < 0 → cmpL a c < 0
 | [], [], _, h, _ => absurd h zz1k
 | [], _ :: _, [], _, h => absurd h (by simp [cmpL])
 | [], _ :: _, _ :: _, _, _ => by simp [cmpL]
 | _ :: _, [], _, h, _ => absurd h (by simp [cmpL])
 | _ :: _, _ :: _, [], _, h => absurd h (by simp [cmpL])
 | x :: a, y :: b, z :: c, h1, h2 => by
  simp only [cmpL] at h1 h2 ⊢; by_cases xy : x < y
  · by_cases zy : z < y
    · rw [if_neg zz1l, if_pos zy] at h2; exact absurd h2 zz1k
    · rw [if_pos (show x < z by omega)]; decide
  · by_cases yx : y < x
    · rw [if_neg xy, if_pos yx] at h1; exact absurd h1 zz1k
    · have e : x = y := by omega
      subst e; rw [if_neg xy, if_neg yx] at h1; by_cases xz : x < z
      · rw [if_pos xz]; decide
      · rw [if_neg xz] at h2 ⊢; by_cases zx : z < x
        · rw [if_pos zx] at h2; exact absurd h2 zz1k
        · rw [if_neg zx] at h2 ⊢; exact cmpL_trans a b c h1 h2
def UpL (l : List (List Int)) : Prop := l.Pairwise (fun a b => cmpL a b < 0)
theorem upL_ext {a b : List (List Int)} (ha : UpL a) (hb : UpL b) (h : ∀ x, x ∈ a ↔ x ∈ b) : a = b := rise_ext _ (fun x h => by rw [cmpL_self] at h; omega) (fun x y z h1 h2 => cmpL_trans x y z h1 h2) ha hb h
def putL : List (List Int) → List Int → List (List Int)
 | [], n => [n]
 | a :: l, n => if cmpL a n < 0 then a :: putL l n else if a = n then a :: l else n :: a :: l
theorem mem_putL (l : List (List Int)) (n x : List Int) : x ∈ putL l n ↔ x = n ∨ x ∈ l := by
 induction l with
 | nil => simp [putL]
 | cons a l ih =>
  simp only [putL]; by_cases h1 : cmpL a n < 0
  · rw [if_pos h1, List.mem_cons, ih, List.mem_cons]; exact ⟨fun h => h.elim (fun h => .inr (.inl h)) (fun h => h.elim .inl (fun h => .inr (.inr h))), fun h => h.elim (fun h => .inr (.inl h)) (fun h => h.elim .inl (fun h => .inr (.inr h)))⟩
  · rw [if_neg h1]; by_cases h2 : a = n
    · rw [if_pos h2]; subst h2; exact ⟨.inr, fun h => h.elim (fun h => by subst h; exact List.mem_cons_self) id⟩
    · rw [if_neg h2, List.mem_cons]
theorem cmpL_flip {a n : List Int} (h1 : ¬ cmpL a n < 0) (h2 : a ≠ n) : cmpL n a < 0 := by
 have h3 := cmpL_neg a n; have h4 : cmpL a n ≠ 0 := fun h => h2 (cmpL_eq a n h)
 omega
theorem upL_put (l : List (List Int)) (n : List Int) (h : UpL l) : UpL (putL l n) := by
 induction l with
 | nil => exact List.pairwise_singleton _ _
 | cons a l ih =>
  obtain ⟨h1, h2⟩ := List.pairwise_cons.1 h; simp only [putL]; by_cases h3 : cmpL a n < 0
  · rw [if_pos h3]; refine List.pairwise_cons.2 ⟨fun x hx => ?_, ih h2⟩; rcases (mem_putL l n x).1 hx with h4 | h4
    · rw [h4]; exact h3
    · exact h1 x h4
  · rw [if_neg h3]; by_cases h4 : a = n
    · rw [if_pos h4]; exact h
    · rw [if_neg h4]; have h6 := cmpL_flip h3 h4; refine List.pairwise_cons.2 ⟨fun x hx => ?_, h⟩; rcases List.mem_cons.1 hx with h5 | h5
      · rw [h5]; exact h6
      · exact cmpL_trans _ _ _ h6 (h1 x h5)
def sortL (l : List (List Int)) : List (List Int) := l.foldl putL []
theorem foldL_ok (l : List (List Int)) : ∀ a, UpL a → UpL (l.foldl putL a) ∧ ∀ x, x ∈ l.foldl putL a ↔ x ∈ l ∨ x ∈ a := by
 induction l with
 | nil => intro a h; exact ⟨h, fun x => by simp⟩
 | cons b l ih =>
  intro a h; obtain ⟨h1, h2⟩ := ih (putL a b) (upL_put a b h); refine ⟨h1, fun x => (h2 x).trans ?_⟩; rw [mem_putL, List.mem_cons]; exact ⟨fun h => h.elim (fun h => .inl (.inr h)) (fun h => h.elim (fun h => .inl (.inl h)) .inr), fun h => h.elim (fun h => h.elim (fun h => .inr (.inl h)) .inl) (fun h => .inr (.inr h))⟩
theorem sortL_up (l) : UpL (sortL l) := (foldL_ok l [] List.Pairwise.nil).1
theorem mem_sortL (l x) : x ∈ sortL l ↔ x ∈ l := ((foldL_ok l [] List.Pairwise.nil).2 x).trans zz1m
theorem upL_of {a l : List (List Int)} (ha : UpL a) (h : ∀ x, x ∈ a ↔ x ∈ l) : a = sortL l := upL_ext ha (sortL_up l) fun x => (h x).trans (mem_sortL l x).symm
def setB (s : List Bool) : List Int := ((List.range s.length).filter fun i => s.getD i false).map fun i : Nat => (i : Int)
theorem mem_setB (s : List Bool) (x : Int) : x ∈ setB s ↔ (0 ≤ x ∧ x < s.length) ∧ s.getD x.toNat false = true := by
 unfold setB; rw [List.mem_map]; constructor
 · rintro ⟨i, hi, rfl⟩; rw [List.mem_filter, List.mem_range] at hi; exact ⟨⟨zz1l, zz1l⟩, by rw [Int.toNat_natCast]; exact hi.2⟩
 · rintro ⟨⟨h0, h1⟩, h⟩; exact ⟨x.toNat, by rw [List.mem_filter, List.mem_range]; exact ⟨zz1l, h⟩, zz1l⟩
theorem setB_up (s : List Bool) : UpI (setB s) := by
 unfold setB UpI; rw [List.pairwise_map]; exact (List.pairwise_lt_range.filter _).imp fun h => by omega
theorem setB_len (s : List Bool) : (setB s).length ≤ s.length := by
 unfold setB; rw [List.length_map]; exact Nat.le_trans (List.length_filter_le _ _) (by rw [List.length_range]; exact Nat.le_refl _)
theorem setB_of {s : List Bool} {a : List Int} (ha : UpI a) (h : ∀ x, x ∈ a ↔ (0 ≤ x ∧ x < s.length) ∧ s.getD x.toNat false = true) : a = setB s := upI_ext ha (setB_up s) fun x => (h x).trans (mem_setB s x).symm
theorem rd_in {l : List Int} {j : Nat} (hj : j < l.length) : rd l j ∈ l := by
 unfold rd; rw [Int.toNat_natCast, List.getD_eq_getElem?_getD, List.getElem?_eq_getElem hj]; exact List.getElem_mem hj
theorem in_rd {l : List Int} {x : Int} (h : x ∈ l) : ∃ j : Nat, j < l.length ∧ rd l j = x := by
 obtain ⟨j, hj, rfl⟩ := List.getElem_of_mem h; refine ⟨j, hj, ?_⟩; unfold rd; rw [Int.toNat_natCast, List.getD_eq_getElem?_getD, List.getElem?_eq_getElem hj]; rfl
theorem rd_drop1 {l : List Int} (j : Nat) : rd (l.drop 1) j = rd l ((j + 1 : Nat) : Int) := by
 unfold rd; rw [Int.toNat_natCast, Int.toNat_natCast, List.getD_eq_getElem?_getD, List.getD_eq_getElem?_getD, List.getElem?_drop, Nat.add_comm]
def RowIn (nons toks : Int) (l : List Int) : Prop := (0 ≤ rd l 0 ∧ rd l 0 < nons) ∧ ∀ j : Nat, 1 ≤ j → j < l.length → -toks ≤ rd l j ∧ rd l j < nons
structure OkB (nons toks : Int) (ps os : List (List Int)) (es : List Int) : Prop where
 n : 1 ≤ nons ∧ nons ≤ 40
 t : 1 ≤ toks ∧ toks ≤ 4
 e : ∀ x, x ∈ es → 0 ≤ x ∧ x < nons
 eu : UpI es
 p : ∀ x, x ∈ ps → x.length = 3 ∧ RowIn nons toks x
 o : ∀ x, x ∈ os → x.length = 2 ∧ RowIn nons toks x
theorem riseF_parts (lo hi : Int) : ∀ (p : Option Int) (l : List Int), riseF lo hi p l = true → (∀ x, x ∈ l → lo ≤ x ∧ x ≤ hi) ∧ UpI l ∧ ∀ y, p = some y → ∀ x, x ∈ l → y < x
 | _, [], _ => ⟨(fun _ h => by cases h), List.Pairwise.nil, (fun _ _ _ h => by cases h)⟩
 | p, x :: l, h => by
  simp only [riseF, Bool.and_eq_true, decide_eq_true_eq] at h; obtain ⟨h1, h2, h3⟩ := riseF_parts lo hi (some x) l h.2.2; refine ⟨fun z hz => (List.mem_cons.1 hz).elim (fun e => by rw [e]; exact h.1) (h1 z), List.pairwise_cons.2 ⟨h3 x rfl, h2⟩, fun y hy z hz => ?_⟩; subst hy; have h4 : y < x := by simpa using h.2.1
  rcases List.mem_cons.1 hz with e | e
  · rw [e]; exact h4
  · have := h3 x rfl z e; omega
theorem listsF_mem (nons toks many : Int) : ∀ (p : Option (List Int)) (l : List (List Int)), listsF nons toks many p l = true → ∀ x, x ∈ l → rowOk nons toks many x = true
 | _, [], _, _, h => by cases h
 | p, y :: l, h, x, hx => by
  simp only [listsF, Bool.and_eq_true] at h; rcases List.mem_cons.1 hx with e | e
  · rw [e]; exact h.1
  · exact listsF_mem nons toks many (some y) l h.2.2 x e
theorem rowOk_parts {nons toks many : Int} (hn : 1 ≤ nons ∧ nons ≤ 40) (ht : 1 ≤ toks ∧ toks ≤ 4) {x : List Int} (h : rowOk nons toks many x = true) : (x.length : Int) = many ∧ RowIn nons toks x := by
 have hw : wrap64 (nons - 1) = nons - 1 := w64 zz1l zz1l; have hw2 : wrap64 (-toks) = -toks := w64 zz1l zz1l; unfold rowOk at h; simp only [Bool.and_eq_true, decide_eq_true_eq, Bool.not_eq_true', List.any_eq_false] at h; obtain ⟨h1, h2, h3⟩ := h; rw [hw] at h2; refine ⟨h1, ⟨h2.1, zz1l⟩, fun j hj1 hj2 => ?_⟩; have h4 := h3 (rd x j) (by
  have := rd_in (l := x.drop 1) (j := j - 1) (by rw [List.length_drop]; omega); rwa [rd_drop1, show j - 1 + 1 = j by omega] at this)
 unfold symB at h4; rw [hw, hw2] at h4; simp at h4; exact ⟨h4.1, zz1l⟩
theorem goodB_ok {nons toks : Int} {ps os : List (List Int)} {es : List Int} {fs : List (List Int)} (h : goodB nons toks ps os es fs = true) : OkB nons toks ps os es := by
 unfold goodB at h; simp only [Bool.and_eq_true, decide_eq_true_eq] at h; obtain ⟨hn, ht, hr, _, _, hp, ho⟩ := h; have hw : wrap64 (nons - 1) = nons - 1 := w64 zz1l zz1l; rw [hw] at hr; obtain ⟨r1, r2, _⟩ := riseF_parts _ _ _ _ hr; refine ⟨hn, ht, fun x hx => by have := r1 x hx; omega, r2, fun x hx => ?_, fun x hx => ?_⟩
 · obtain ⟨h1, h2⟩ := rowOk_parts hn ht (listsF_mem _ _ _ _ _ hp x hx); exact ⟨zz1l, h2⟩
 · obtain ⟨h1, h2⟩ := rowOk_parts hn ht (listsF_mem _ _ _ _ _ ho x hx); exact ⟨zz1l, h2⟩
inductive NulR (es : List Int) (rows : List (List Int)) : Int → Prop
 | base {x : Int} : x ∈ es → NulR es rows x
 | step {l : List Int} : l ∈ rows → (∀ j : Nat, 1 ≤ j → j < l.length → 0 ≤ rd l j) → (∀ j : Nat, 1 ≤ j → j < l.length → NulR es rows (rd l j)) → NulR es rows (rd l 0)
theorem NulR.least {es : List Int} {rows : List (List Int)} {T : Int → Prop} (h : ∀ x, x ∈ es → T x) (hc : ∀ l, l ∈ rows → (∀ j : Nat, 1 ≤ j → j < l.length → 0 ≤ rd l j ∧ T (rd l j)) → T (rd l 0)) {x : Int} (hx : NulR es rows x) : T x := by
 induction hx with
 | base h1 => exact h _ h1
 | step h1 h2 _ ih => exact hc _ h1 fun j a b => ⟨h2 j a b, ih j a b⟩
def cntN (s : List Bool) : Nat := s.count false
theorem cntN_set (s : List Bool) (i : Nat) (hi : i < s.length) (h : s.getD i false = false) : cntN (s.set i true) + 1 = cntN s := by
 unfold cntN
 induction s generalizing i with
 | nil => simp at hi
 | cons b s ih =>
  cases i with
  | zero =>
   have hb : b = false := by simpa using h
   subst hb; simp [List.count_cons]
  | succ i =>
   have := ih i (by simpa using hi) (by simpa using h); simp only [List.set_cons_succ, List.count_cons]; omega
def nulQ (s : List Bool) (x : Int) : Bool := decide (x < 0) || !s.getD x.toNat false
structure NulI (n : Nat) (es : List Int) (rows : List (List Int)) (s : List Bool) : Prop where
 len : s.length = n
 lo : ∀ x, x ∈ es → s.getD x.toNat false = true
 hi : ∀ i : Nat, i < n → s.getD i false = true → NulR es rows i
theorem getD_set_true {s : List Bool} {i j : Nat} (hi : i < s.length) : (s.set i true).getD j false = (if j = i then true else s.getD j false) := by
 rw [List.getD_eq_getElem?_getD, List.getD_eq_getElem?_getD, List.getElem?_set]; by_cases c : i = j
 · subst c; rw [if_pos rfl, if_pos hi, if_pos rfl]; rfl
 · rw [if_neg c, if_neg (fun e => c e.symm)]
theorem nulQ_all {s : List Bool} {l : List Int} : (l.drop 1).any (nulQ s) = false ↔ ∀ j : Nat, 1 ≤ j → j < l.length → 0 ≤ rd l j ∧ s.getD (rd l j).toNat false = true := by
 rw [List.any_eq_false]; constructor
 · intro h j h1 h2; have := h (rd l j) (by
    have := rd_in (l := l.drop 1) (j := j - 1) (by rw [List.length_drop]; omega); rwa [rd_drop1, show j - 1 + 1 = j by omega] at this)
   unfold nulQ at this; simp at this; exact ⟨this.1, by simpa using this.2⟩
 · intro h x hx; obtain ⟨j, hj, rfl⟩ := in_rd hx; rw [List.length_drop] at hj; rw [rd_drop1]; obtain ⟨h1, h2⟩ := h (j + 1) zz1l zz1l; unfold nulQ; rw [h2, decide_eq_false zz1l]; decide
theorem nulI_set {n : Nat} {es : List Int} {rows : List (List Int)} {s : List Bool} (h : NulI n es rows s) {l : List Int} (hl : l ∈ rows) (h0 : 0 ≤ rd l 0 ∧ rd l 0 < n) (hb : ∀ j : Nat, 1 ≤ j → j < l.length → rd l j < n) (hq : (l.drop 1).any (nulQ s) = false) : NulI n es rows (s.set (rd l 0).toNat true) := by
 have hlen := h.len; refine ⟨by rw [List.length_set]; exact h.len, fun x hx => ?_, fun i hi hs => ?_⟩
 · rw [getD_set_true zz1l, h.lo x hx]; split <;> rfl
 · rw [getD_set_true zz1l] at hs; by_cases c : i = (rd l 0).toNat
   · subst c; have hq' := nulQ_all.1 hq; rw [show (((rd l 0).toNat : Nat) : Int) = rd l 0 by omega]; refine .step hl (fun j a b => (hq' j a b).1) (fun j a b => ?_); have h5 := hq' j a b; have h6 := hb j a b; have := h.hi (rd l j).toNat zz1l h5.2; rwa [show (((rd l j).toNat : Nat) : Int) = rd l j by omega] at this
   · rw [if_neg c] at hs; exact h.hi i hi hs
def rowDone (s : List Bool) (l : List Int) : Prop := s.getD (rd l 0).toNat false = true ∨ (l.drop 1).any (nulQ s) = true
theorem nulI_mem {n : Nat} {es : List Int} {rows : List (List Int)} {s : List Bool} (h : NulI n es rows s) (he : ∀ x, x ∈ es → 0 ≤ x) (hr : ∀ l, l ∈ rows → 0 ≤ rd l 0) (hd : ∀ l, l ∈ rows → rowDone s l) (i : Nat) (hi : i < n) : s.getD i false = true ↔ NulR es rows i := by
 refine ⟨h.hi i hi, fun hx => ?_⟩; have : (0 : Int) ≤ (i : Int) ∧ s.getD ((i : Int)).toNat false = true := hx.least (T := fun x => 0 ≤ x ∧ s.getD x.toNat false = true) (fun x hx => ⟨he x hx, h.lo x hx⟩) (fun l hl hj => ⟨hr l hl, (hd l hl).elim id (fun hq => by rw [(nulQ_all (s := s) (l := l)).2 fun j a b => (hj j a b).2] at hq; cases hq)⟩); rw [Int.toNat_natCast] at this; exact this.2
theorem nulI_ext {n : Nat} {es : List Int} {rows : List (List Int)} {s t : List Bool} (h : NulI n es rows s) (k : NulI n es rows t) (he : ∀ x, x ∈ es → 0 ≤ x) (hr : ∀ l, l ∈ rows → 0 ≤ rd l 0) (hd : ∀ l, l ∈ rows → rowDone s l) (kd : ∀ l, l ∈ rows → rowDone t l) : s = t := by
 have hl := h.len; have kl := k.len; apply List.ext_getElem?; intro i; by_cases hi : i < n
 · have key : s.getD i false = t.getD i false := by
    rw [Bool.eq_iff_iff, nulI_mem h he hr hd i hi, nulI_mem k he hr kd i hi]
   rw [List.getD_eq_getElem?_getD, List.getD_eq_getElem?_getD, List.getElem?_eq_getElem zz1l, List.getElem?_eq_getElem zz1l] at key; rw [List.getElem?_eq_getElem zz1l, List.getElem?_eq_getElem zz1l]; exact congrArg some key
 · rw [List.getElem?_eq_none zz1l, List.getElem?_eq_none zz1l]
def stepN (s : List Bool) (l : List Int) : List Bool := if (l.drop 1).any (nulQ s) = true then s else s.set (rd l 0).toNat true
def passN (rows : List (List Int)) (s : List Bool) : List Bool := rows.foldl stepN s
def iterN (rows : List (List Int)) : Nat → List Bool → List Bool
 | 0, s => s
 | k + 1, s => iterN rows k (passN rows s)
def nulV (n : Nat) (es : List Int) (rows : List (List Int)) : List Bool := iterN rows (n + 1) ((List.range n).map fun i : Nat => decide ((i : Int) ∈ es))
def rowsIn (n : Nat) (rows : List (List Int)) : Prop := ∀ l, l ∈ rows → (0 ≤ rd l 0 ∧ rd l 0 < n) ∧ ∀ j : Nat, 1 ≤ j → j < l.length → rd l j < n
theorem stepN_ok {n : Nat} {es : List Int} {rows : List (List Int)} (hr : rowsIn n rows) {s : List Bool} (h : NulI n es rows s) {l : List Int} (hl : l ∈ rows) :
 NulI n es rows (stepN s l) ∧ cntN (stepN s l) ≤ cntN s ∧ (cntN (stepN s l) = cntN s → stepN s l = s ∧ rowDone s l) := by
 unfold stepN; cases hq : (l.drop 1).any (nulQ s) with
 | true => exact ⟨h, Nat.le_refl _, fun _ => ⟨rfl, .inr hq⟩⟩
 | false =>
  rw [if_neg zz1k]; have h0 := (hr l hl).1; have hlen := h.len; refine ⟨nulI_set h hl h0 (hr l hl).2 hq, ?_⟩; cases hv : s.getD (rd l 0).toNat false with
  | true =>
   have e : s.set (rd l 0).toNat true = s := by
    apply List.ext_getElem?; intro i; rw [List.getElem?_set]; by_cases c : (rd l 0).toNat = i
    · subst c; rw [if_pos rfl, if_pos zz1l, List.getElem?_eq_getElem zz1l]; rw [List.getD_eq_getElem?_getD, List.getElem?_eq_getElem zz1l] at hv; exact congrArg some hv.symm
    · rw [if_neg c]
   rw [e]; exact ⟨Nat.le_refl _, fun _ => ⟨rfl, .inl hv⟩⟩
  | false =>
   have := cntN_set s (rd l 0).toNat zz1l hv; exact ⟨zz1l, fun h => by omega⟩
theorem passN_ok {n : Nat} {es : List Int} {rows : List (List Int)} (hr : rowsIn n rows) : ∀ (ls : List (List Int)), (∀ l, l ∈ ls → l ∈ rows) → ∀ s : List Bool, NulI n es rows s →
 NulI n es rows (ls.foldl stepN s) ∧ cntN (ls.foldl stepN s) ≤ cntN s ∧ (cntN (ls.foldl stepN s) = cntN s → ls.foldl stepN s = s ∧ ∀ l, l ∈ ls → rowDone s l) := by
 intro ls
 induction ls with
 | nil => intro _ s h; exact ⟨h, Nat.le_refl _, fun _ => ⟨rfl, fun l hl => by cases hl⟩⟩
 | cons l ls ih =>
  intro hs s h; obtain ⟨a1, a2, a3⟩ := stepN_ok hr h (hs l List.mem_cons_self); obtain ⟨b1, b2, b3⟩ := ih (fun x hx => hs x (List.mem_cons_of_mem _ hx)) (stepN s l) a1; refine ⟨b1, Nat.le_trans b2 a2, fun e => ?_⟩; have e1 : cntN (stepN s l) = cntN s := by simp only [List.foldl_cons] at e; omega
  obtain ⟨c1, c2⟩ := a3 e1; rw [c1] at b1 b2 b3; simp only [List.foldl_cons, c1] at e ⊢; obtain ⟨d1, d2⟩ := b3 e; exact ⟨d1, fun x hx => (List.mem_cons.1 hx).elim (fun e => by rw [e]; exact c2) (d2 x)⟩
theorem iterN_ok {n : Nat} {es : List Int} {rows : List (List Int)} (hr : rowsIn n rows) (k : Nat) : ∀ s : List Bool, NulI n es rows s → cntN s < k → NulI n es rows (iterN rows k s) ∧ ∀ l, l ∈ rows → rowDone (iterN rows k s) l := by
 induction k with
 | zero => intro s _ h; omega
 | succ k ih =>
  intro s h hc; obtain ⟨a1, a2, a3⟩ := passN_ok hr rows (fun _ h => h) s h; by_cases e : cntN (passN rows s) = cntN s
  · obtain ⟨b1, b2⟩ := a3 e; have fix : ∀ m, iterN rows m s = s := by
     intro m
     induction m with
     | zero => rfl
     | succ m ihm => show iterN rows m (passN rows s) = s; rw [show passN rows s = s from b1]; exact ihm
    rw [fix]; exact ⟨h, b2⟩
  · show NulI n es rows (iterN rows k (passN rows s)) ∧ _; have a4 : cntN (passN rows s) ≤ cntN s := a2; exact ih _ a1 zz1l
theorem cntN_le (s : List Bool) : cntN s ≤ s.length := List.count_le_length
theorem nulV_ok {n : Nat} {es : List Int} {rows : List (List Int)} (hr : rowsIn n rows) (he : ∀ x, x ∈ es → 0 ≤ x ∧ x < n) : NulI n es rows (nulV n es rows) ∧ ∀ l, l ∈ rows → rowDone (nulV n es rows) l := by
 have hl : ((List.range n).map fun i : Nat => decide ((i : Int) ∈ es)).length = n := by rw [List.length_map, List.length_range]
 have hg : ∀ i : Nat, i < n → ((List.range n).map fun i : Nat => decide ((i : Int) ∈ es)).getD i false = decide ((i : Int) ∈ es) := fun i hi => by
  rw [List.getD_eq_getElem?_getD, List.getElem?_map, List.getElem?_range hi]; rfl
 refine iterN_ok hr (n + 1) _ ⟨hl, fun x hx => ?_, fun i hi h => ?_⟩ (Nat.lt_succ_of_le (by have := cntN_le ((List.range n).map fun i : Nat => decide ((i : Int) ∈ es)); rw [hl] at this; exact this))
 · have := he x hx; rw [hg x.toNat zz1l]; exact decide_eq_true (by rw [show ((x.toNat : Nat) : Int) = x by omega]; exact hx)
 · rw [hg i hi] at h; exact .base (of_decide_eq_true h)
theorem nulV_len {n : Nat} {es : List Int} {rows : List (List Int)} (hr : rowsIn n rows) (he : ∀ x, x ∈ es → 0 ≤ x ∧ x < n) : (nulV n es rows).length = n := (nulV_ok hr he).1.len
theorem nulV_at {n : Nat} {es : List Int} {rows : List (List Int)} (hr : rowsIn n rows) (he : ∀ x, x ∈ es → 0 ≤ x ∧ x < n) {i : Nat} (hi : i < n) : (nulV n es rows).getD i false = true ↔ NulR es rows i :=
 nulI_mem (nulV_ok hr he).1 (fun x hx => (he x hx).1) (fun l hl => (hr l hl).1.1) (nulV_ok hr he).2 i hi
theorem nulI_end {n : Nat} {es : List Int} {rows : List (List Int)} {s : List Bool} (h : NulI n es rows s) (hr : rowsIn n rows) (he : ∀ x, x ∈ es → 0 ≤ x ∧ x < n) (hd : ∀ l, l ∈ rows → rowDone s l) : s = nulV n es rows :=
 nulI_ext h (nulV_ok hr he).1 (fun x hx => (he x hx).1) (fun l hl => (hr l hl).1.1) hd (nulV_ok hr he).2
theorem okB_rows {n : Nat} {toks : Int} {ps os : List (List Int)} {es : List Int} (h : OkB (n : Int) toks ps os es) : rowsIn n (ps ++ os) := fun l hl => (List.mem_append.1 hl).elim (fun hl => ⟨(h.p l hl).2.1, fun j a b => ((h.p l hl).2.2 j a b).2⟩) (fun hl => ⟨(h.o l hl).2.1, fun j a b => ((h.o l hl).2.2 j a b).2⟩)
end Go.Proofs.YtkocahlifffgjaaGreat.P
namespace Go.Proofs
open Go.Shelf
def Tryz.srt_ren : Go.Shelf.Ren := ⟨fun | 5 => 75 | 8 => 87 | 7 => 86 | 19 => 101 | 20 => 102 | 10 => 92 | 11 => 93 | 12 => 94 | 13 => 95 | 14 => 96 | 15 => 97 | 16 => 98 | 17 => 99 | 18 => 100 | 30 => 111 | 31 => 112 | 32 => 113 | 33 => 114 | 34 => 115 | 35 => 81 | 40 => 119 | n => n, fun | 23 => 23 | 25 => 3 | 3 => 3 | 32 => 94 | 22 => 23 | 0 => 0 | 44 => 105 | 46 => 107 | 4 => 4 | 36 => 98 | 35 => 97 | 41 => 102 | 5 => 5 | 9 => 9 | 53 => 113 | 57 => 117 | 63 => 121 | 64 => 122 | n => n, fun | n => n⟩
theorem Tryz.srt : Go.Proofs.SlLaysM.n5 Tryz.prog Tryz.srt_ren := {
 mixed := by kernel_rfl,
 f5 := ⟨Tryz.f75.name, by decide, Tryz.func75.trans (congrArg some (by kernel_rfl))⟩,
 f7 := ⟨Tryz.f86.name, by decide, Tryz.func86.trans (congrArg some (by kernel_rfl))⟩,
 f8 := Tryz.func87.trans (congrArg some (by kernel_rfl)),
 f10 := ⟨Tryz.f92.name, by decide, Tryz.func92.trans (congrArg some (by kernel_rfl))⟩,
 f11 := ⟨Tryz.f93.name, by decide, Tryz.func93.trans (congrArg some (by kernel_rfl))⟩,
 f12 := ⟨Tryz.f94.name, by decide, Tryz.func94.trans (congrArg some (by kernel_rfl))⟩,
 f13 := ⟨Tryz.f95.name, by decide, Tryz.func95.trans (congrArg some (by kernel_rfl))⟩,
 f14 := ⟨Tryz.f96.name, by decide, Tryz.func96.trans (congrArg some (by kernel_rfl))⟩,
 f15 := ⟨Tryz.f97.name, by decide, Tryz.func97.trans (congrArg some (by kernel_rfl))⟩,
 f16 := ⟨Tryz.f98.name, by decide, Tryz.func98.trans (congrArg some (by kernel_rfl))⟩,
 f17 := ⟨Tryz.f99.name, by decide, Tryz.func99.trans (congrArg some (by kernel_rfl))⟩,
 f18 := ⟨Tryz.f100.name, by decide, Tryz.func100.trans (congrArg some (by kernel_rfl))⟩,
 f19 := Tryz.func101.trans (congrArg some (by kernel_rfl)),
 f20 := Tryz.func102.trans (congrArg some (by kernel_rfl)),
 f30 := ⟨Tryz.f111.name, by decide, Tryz.func111.trans (congrArg some (by kernel_rfl))⟩,
 f31 := Tryz.func112.trans (congrArg some (by kernel_rfl)),
 f32 := Tryz.func113.trans (congrArg some (by kernel_rfl)),
 f33 := ⟨Tryz.f114.name, by decide, Tryz.func114.trans (congrArg some (by kernel_rfl))⟩,
 f34 := ⟨Tryz.f115.name, by decide, Tryz.func115.trans (congrArg some (by kernel_rfl))⟩,
 f35 := ⟨Tryz.f81.name, by decide, Tryz.func81.trans (congrArg some (by kernel_rfl))⟩,
 f40 := ⟨Tryz.f119.name, by decide, Tryz.func119.trans (congrArg some (by kernel_rfl))⟩,
 t0 := Tryz.underlying0,
 a0 := Tryz.isAgg0,
 z0 := Tryz.sizeOf0,
 v0 := Tryz.zeroValue0,
 t3 := Tryz.underlying3,
 a3 := Tryz.isAgg3,
 z3 := Tryz.sizeOf3,
 v3 := Tryz.zeroValue3,
 t4 := Tryz.underlying4,
 a4 := Tryz.isAgg4,
 z4 := Tryz.sizeOf4,
 v4 := Tryz.zeroValue4,
 t5 := Tryz.underlying5,
 a5 := Tryz.isAgg5,
 z5 := Tryz.sizeOf5,
 v5 := Tryz.zeroValue5,
 t9 := Tryz.underlying9,
 a9 := Tryz.isAgg9,
 z9 := Tryz.sizeOf9,
 v9 := Tryz.zeroValue9,
 t22 := Tryz.underlying23,
 a22 := Tryz.isAgg23,
 z22 := Tryz.sizeOf23,
 v22 := Tryz.zeroValue23,
 t23 := Tryz.underlying23,
 a23 := Tryz.isAgg23,
 z23 := Tryz.sizeOf23,
 v23 := Tryz.zeroValue23,
 t25 := Tryz.underlying3,
 a25 := Tryz.isAgg3,
 z25 := Tryz.sizeOf3,
 v25 := Tryz.zeroValue3,
 t32 := Tryz.underlying94,
 a32 := Tryz.isAgg94,
 z32 := Tryz.sizeOf94,
 v32 := Tryz.zeroValue94,
 t35 := Tryz.underlying97,
 a35 := Tryz.isAgg97,
 z35 := Tryz.sizeOf97,
 v35 := Tryz.zeroValue97,
 t36 := Tryz.underlying98,
 a36 := Tryz.isAgg98,
 z36 := Tryz.sizeOf98,
 v36 := Tryz.zeroValue98,
 t41 := Tryz.underlying102,
 a41 := Tryz.isAgg102,
 z41 := Tryz.sizeOf102,
 v41 := Tryz.zeroValue102,
 t44 := Tryz.underlying105,
 a44 := Tryz.isAgg105,
 z44 := Tryz.sizeOf105,
 v44 := Tryz.zeroValue105,
 t46 := Tryz.underlying107,
 a46 := Tryz.isAgg107,
 z46 := Tryz.sizeOf107,
 v46 := Tryz.zeroValue107,
 t53 := Tryz.underlying113,
 a53 := Tryz.isAgg113,
 z53 := Tryz.sizeOf113,
 v53 := Tryz.zeroValue113,
 t57 := Tryz.underlying117,
 a57 := Tryz.isAgg117,
 z57 := Tryz.sizeOf117,
 v57 := Tryz.zeroValue117,
 t63 := Tryz.underlying121,
 a63 := Tryz.isAgg121,
 z63 := Tryz.sizeOf121,
 v63 := Tryz.zeroValue121,
 t64 := Tryz.underlying122,
 a64 := Tryz.isAgg122,
 z64 := Tryz.sizeOf122,
 v64 := Tryz.zeroValue122
 }
def Tryz.cmpt_ren : Go.Shelf.Ren := ⟨fun | 43 => 89 | n => n, fun | 22 => 23 | 23 => 3 | 3 => 3 | 4 => 4 | 0 => 0 | n => n, fun | n => n⟩
theorem Tryz.cmpt : Go.Proofs.SlLaysE.n43 Tryz.prog Tryz.cmpt_ren := {
 mixed := by kernel_rfl,
 f43 := ⟨Tryz.f89.name, by decide, Tryz.func89.trans (congrArg some (by kernel_rfl))⟩,
 t0 := Tryz.underlying0,
 a0 := Tryz.isAgg0,
 z0 := Tryz.sizeOf0,
 v0 := Tryz.zeroValue0,
 t3 := Tryz.underlying3,
 a3 := Tryz.isAgg3,
 z3 := Tryz.sizeOf3,
 v3 := Tryz.zeroValue3,
 t4 := Tryz.underlying4,
 a4 := Tryz.isAgg4,
 z4 := Tryz.sizeOf4,
 v4 := Tryz.zeroValue4,
 t22 := Tryz.underlying23,
 a22 := Tryz.isAgg23,
 z22 := Tryz.sizeOf23,
 v22 := Tryz.zeroValue23,
 a23 := Tryz.isAgg3,
 z23 := Tryz.sizeOf3
 }
def Tryz.srtf_ren : Go.Shelf.Ren := ⟨fun | 6 => 83 | 15 => 87 | 14 => 91 | 28 => 101 | 29 => 102 | 20 => 103 | 21 => 104 | 22 => 105 | 23 => 106 | 24 => 107 | 25 => 108 | 26 => 109 | 27 => 110 | 46 => 116 | 47 => 112 | 48 => 113 | 49 => 117 | 50 => 118 | 57 => 120 | n => n, fun | 22 => 22 | 24 => 23 | 25 => 69 | 3 => 3 | 39 => 94 | 0 => 0 | 53 => 105 | 55 => 107 | 4 => 4 | 46 => 98 | 45 => 97 | 50 => 102 | 5 => 5 | 9 => 9 | 66 => 113 | 70 => 117 | 76 => 121 | 77 => 122 | n => n, fun | n => n⟩
theorem Tryz.srtf : Go.Proofs.SlLaysF.n6 Tryz.prog Tryz.srtf_ren := {
 mixed := by kernel_rfl,
 f6 := ⟨Tryz.f83.name, by decide, Tryz.func83.trans (congrArg some (by kernel_rfl))⟩,
 f14 := ⟨Tryz.f91.name, by decide, Tryz.func91.trans (congrArg some (by kernel_rfl))⟩,
 f15 := Tryz.func87.trans (congrArg some (by kernel_rfl)),
 f20 := ⟨Tryz.f103.name, by decide, Tryz.func103.trans (congrArg some (by kernel_rfl))⟩,
 f21 := ⟨Tryz.f104.name, by decide, Tryz.func104.trans (congrArg some (by kernel_rfl))⟩,
 f22 := ⟨Tryz.f105.name, by decide, Tryz.func105.trans (congrArg some (by kernel_rfl))⟩,
 f23 := ⟨Tryz.f106.name, by decide, Tryz.func106.trans (congrArg some (by kernel_rfl))⟩,
 f24 := ⟨Tryz.f107.name, by decide, Tryz.func107.trans (congrArg some (by kernel_rfl))⟩,
 f25 := ⟨Tryz.f108.name, by decide, Tryz.func108.trans (congrArg some (by kernel_rfl))⟩,
 f26 := ⟨Tryz.f109.name, by decide, Tryz.func109.trans (congrArg some (by kernel_rfl))⟩,
 f27 := ⟨Tryz.f110.name, by decide, Tryz.func110.trans (congrArg some (by kernel_rfl))⟩,
 f28 := Tryz.func101.trans (congrArg some (by kernel_rfl)),
 f29 := Tryz.func102.trans (congrArg some (by kernel_rfl)),
 f46 := ⟨Tryz.f116.name, by decide, Tryz.func116.trans (congrArg some (by kernel_rfl))⟩,
 f47 := Tryz.func112.trans (congrArg some (by kernel_rfl)),
 f48 := Tryz.func113.trans (congrArg some (by kernel_rfl)),
 f49 := ⟨Tryz.f117.name, by decide, Tryz.func117.trans (congrArg some (by kernel_rfl))⟩,
 f50 := ⟨Tryz.f118.name, by decide, Tryz.func118.trans (congrArg some (by kernel_rfl))⟩,
 f57 := ⟨Tryz.f120.name, by decide, Tryz.func120.trans (congrArg some (by kernel_rfl))⟩,
 t0 := Tryz.underlying0,
 a0 := Tryz.isAgg0,
 z0 := Tryz.sizeOf0,
 v0 := Tryz.zeroValue0,
 t3 := Tryz.underlying3,
 a3 := Tryz.isAgg3,
 z3 := Tryz.sizeOf3,
 v3 := Tryz.zeroValue3,
 t4 := Tryz.underlying4,
 a4 := Tryz.isAgg4,
 z4 := Tryz.sizeOf4,
 v4 := Tryz.zeroValue4,
 t5 := Tryz.underlying5,
 a5 := Tryz.isAgg5,
 z5 := Tryz.sizeOf5,
 v5 := Tryz.zeroValue5,
 t9 := Tryz.underlying9,
 a9 := Tryz.isAgg9,
 z9 := Tryz.sizeOf9,
 v9 := Tryz.zeroValue9,
 t22 := Tryz.underlying22,
 a22 := Tryz.isAgg22,
 z22 := Tryz.sizeOf22,
 v22 := Tryz.zeroValue22,
 a24 := Tryz.isAgg23,
 z24 := Tryz.sizeOf23,
 t25 := Tryz.underlying69,
 a25 := Tryz.isAgg69,
 z25 := Tryz.sizeOf69,
 v25 := Tryz.zeroValue69,
 t39 := Tryz.underlying94,
 a39 := Tryz.isAgg94,
 z39 := Tryz.sizeOf94,
 v39 := Tryz.zeroValue94,
 t45 := Tryz.underlying97,
 a45 := Tryz.isAgg97,
 z45 := Tryz.sizeOf97,
 v45 := Tryz.zeroValue97,
 t46 := Tryz.underlying98,
 a46 := Tryz.isAgg98,
 z46 := Tryz.sizeOf98,
 v46 := Tryz.zeroValue98,
 t50 := Tryz.underlying102,
 a50 := Tryz.isAgg102,
 z50 := Tryz.sizeOf102,
 v50 := Tryz.zeroValue102,
 t53 := Tryz.underlying105,
 a53 := Tryz.isAgg105,
 z53 := Tryz.sizeOf105,
 v53 := Tryz.zeroValue105,
 t55 := Tryz.underlying107,
 a55 := Tryz.isAgg107,
 z55 := Tryz.sizeOf107,
 v55 := Tryz.zeroValue107,
 t66 := Tryz.underlying113,
 a66 := Tryz.isAgg113,
 z66 := Tryz.sizeOf113,
 v66 := Tryz.zeroValue113,
 t70 := Tryz.underlying117,
 a70 := Tryz.isAgg117,
 z70 := Tryz.sizeOf117,
 v70 := Tryz.zeroValue117,
 t76 := Tryz.underlying121,
 a76 := Tryz.isAgg121,
 z76 := Tryz.sizeOf121,
 v76 := Tryz.zeroValue121,
 t77 := Tryz.underlying122,
 a77 := Tryz.isAgg122,
 z77 := Tryz.sizeOf122,
 v77 := Tryz.zeroValue122
 }
end Go.Proofs
namespace Go.Proofs.YtkocahlifffgjaaGreat.P
open Go.RowKit Go.Proofs.YtkocahlifffgjaaGreatW.PrintWords Go.Proofs.YtkocahlifffgjaaGreatW.PrintLast Go.Proofs.YtkocahlifffgjaaGreatW.PrintMore
set_option linter.unusedVariables false
set_option linter.unusedSimpArgs false
theorem reps_ints {W : World} {base : Nat} {ok : Nat → Prop} : ∀ (zs : List Int), Reps ((Kd.int .i64).M W base ok) 1 zs (zs.map (Value.int .i64))
 | zs => ⟨zz1m, fun j x hx => by
  have h1 : (zs.map (Value.int .i64))[j]? = some (.int .i64 x) := by rw [List.getElem?_map, hx]; rfl
  rw [Nat.mul_one]; obtain ⟨h2, h3⟩ := List.getElem?_eq_some_iff.1 h1; rw [List.drop_eq_getElem_cons h2, h3]; rfl⟩
theorem ints_of {W : World} {base : Nat} {ok : Nat → Prop} {zs : List Int} {cs : List Value} (h : Reps ((Kd.int .i64).M W base ok) 1 zs cs) : cs = zs.map (Value.int .i64) := by
 obtain ⟨h1, h2⟩ := h; apply List.ext_getElem?; intro j; rw [List.getElem?_map]; cases hx : zs[j]? with
 | none =>
  have h3 := List.getElem?_eq_none_iff.1 hx; rw [List.getElem?_eq_none_iff.2 (by rw [h1, Nat.mul_one]; exact h3)]; rfl
 | some x =>
  have h3 := h2 j x hx; rw [Nat.mul_one] at h3; have h4 : (cs.drop j).take 1 = [.int .i64 x] := h3; have h5 := congrArg (fun l => l[0]?) h4; simp only [List.getElem?_take_of_lt (show 0 < 1 by decide), List.getElem?_drop, Nat.add_zero] at h5; rw [h5]; rfl
theorem R_ints {W : World} {base e : Nat} {ok : Nat → Prop} {v : Value} {zs : List Int} (h : Kd.R (Kd.int .i64) e W base ok v zs) :
 (v = .slice none 0 0 ∧ zs = []) ∨ ∃ (g cap : Nat) (cur : Array Value), v = .slice (some ⟨g, 0, none⟩) zs.length cap ∧ ok g ∧ base ≤ g ∧ W.heap[g]? = some (.cells cur e (0, 0)) ∧ zs.length ≤ cap ∧ cap ≤ maxLen ∧ cur.size = cap * 1 ∧ cur.toList.take zs.length = zs.map (Value.int .i64) := by
 obtain ⟨hok, inner, ⟨hlen, hrow⟩, hr⟩ := h; obtain rfl := ints_of hr; rcases hrow with ⟨hv, h0⟩ | ⟨g, cap, cur, hv, hbg, hh, hnc, hcm, hcs, ht⟩
 · refine .inl ⟨hv, ?_⟩; exact List.length_eq_zero_iff.1 h0
 · exact .inr ⟨g, cap, cur, hv, hok g (by rw [hv]; rfl), hbg, hh, hnc, hcm, hcs, by rw [show zs.length * (Kd.int .i64).sz = zs.length from Nat.mul_one _] at ht; exact ht⟩
theorem R_of_block {W : World} {base e g cap : Nat} {ok : Nat → Prop} {zs : List Int} {cur : Array Value} (hok : ok g) (hb : base ≤ g) (hh : W.heap[g]? = some (.cells cur e (0, 0))) (hn : zs.length ≤ cap) (hc : cap ≤ maxLen) (hs : cur.size = cap * 1) (ht : cur.toList.take zs.length = zs.map (Value.int .i64)) :
 Kd.R (Kd.int .i64) e W base ok (.slice (some ⟨g, 0, none⟩) zs.length cap) zs :=
 ⟨fun k hk => by have : g = k := by simpa [Value.ownBlock] using hk
                 rw [← this]; exact hok, zs.map (Value.int .i64), ⟨by rw [List.length_map]; exact (Nat.mul_one _).symm, .inr ⟨g, cap, cur, rfl, hb, hh, hn, hc, hs, by rw [show zs.length * (Kd.int .i64).sz = zs.length from Nat.mul_one _]; exact ht⟩⟩, reps_ints zs⟩
theorem mergeI_len (l : List Int) : (l.mergeSort fun x y => decide (x ≤ y)).length = l.length := List.length_mergeSort l
theorem below_sorted {b : Nat} {w W : World} {g n : Nat} {os : Array Obj} (d : Array Int) (h : Below b w W) (hg : b ≤ g) (hb : b ≤ W.heap.size) : Below b w (Go.Sort.grow (Go.Sort.putRow (Value.int .i64) (Go.Sort.ahead W n) g 0 d) os) := by
 have k := Go.grownBy_sortedI (w := W) (g := g) (n := n) (os := os) d; exact ⟨k.os.trans h.os, k.tape.trans h.tape, k.output.trans h.output, Nat.le_trans h.size k.size, fun i hi => (k.block i (Nat.lt_of_lt_of_le hi hb) (fun e => by injection e with e; omega)).trans (h.block i hi)⟩
theorem kept_sorted {W : World} {g n : Nat} {os : Array Obj} {P : Nat → Prop} (d : Array Int) (hg : P g) : Kept W (Go.Sort.grow (Go.Sort.putRow (Value.int .i64) (Go.Sort.ahead W n) g 0 d) os) P := by
 have k := Go.grownBy_sortedI (w := W) (g := g) (n := n) (os := os) d; exact ⟨k.size, fun i hi hn => k.block i hi (fun e => hn (by injection e with e; rw [e]; exact hg))⟩
def slices_Sort_int_int.f (l0 : List Int) : Option (List Int) := if l0.length < 4611686018427387904 then some (l0.mergeSort fun x y => decide (x ≤ y)) else none
theorem slices_Sort_int_int.calls (P0_ : Nat → Prop) (u9000_ : Value) (l0 : List Int) (r : List Int) (w0 w : World) (hB : Below w0.heap.size w0 w) (ho0 : Kd.R (Kd.int .i64) 3 w w0.heap.size P0_ u9000_ l0) (h : slices_Sort_int_int.f l0 = some r) :
 Calls Tryz.prog 75 #[u9000_] w fun e w' => e = .returned (.tuple #[]) ∧ Kd.R (Kd.int .i64) 3 w' w0.heap.size (fun k_ => (P0_ k_ ∨ w.heap.size ≤ k_)) u9000_ r ∧ Below w0.heap.size w0 w' ∧ Kept w w' (fun k_ => P0_ k_) := by
 unfold slices_Sort_int_int.f at h; by_cases hl : l0.length < 4611686018427387904
 · rw [if_pos hl] at h; obtain rfl := Option.some.inj h; rcases R_ints ho0 with ⟨rfl, rfl⟩ | ⟨g, cap, cur, rfl, hok, hbg, hh, hn, hc, hs, ht⟩
   · refine (AnyM.slices_Sort_int_none Tryz.srt none 0 w).mono fun e w' ⟨he, hw⟩ => ?_
     subst hw; exact ⟨he, by rw [List.mergeSort_nil]; exact Kd.R_nil _ _ _ _ _, hB, Kept.refl _ _⟩
   · have hg : g < w.heap.size := (Array.getElem?_eq_some_iff.1 hh).1; refine (AnyM.slices_Sort_int Tryz.srt g 0 cap l0 w (Go.holds_of_blockI hh ht) hg hl).mono fun e w' ⟨he, n, os, hw⟩ => ?_
     have hl2 := mergeI_len l0; subst hw; refine ⟨he, ?_, below_sorted _ hB hbg hB.size, kept_sorted _ hok⟩; have hh2 := Go.heap_sortedI (n := n) (os := os) (l0.mergeSort fun x y => decide (x ≤ y)).toArray hh; have R := R_of_block (cap := cap) (ok := fun k_ => (P0_ k_ ∨ w.heap.size ≤ k_)) (.inl hok) hbg hh2 (by rw [hl2]; exact hn) hc (by simp [Go.Sort.putCells, hs]) (Go.take_putCellsI cur _ (by rw [hl2]; omega)); rw [hl2] at R; exact R
 · rw [if_neg hl] at h; cases h
def slices_Compact_int_int.f (l0 : List Int) : Option (List Int) := if l0.length < 4611686018427387904 then some (Go.Lib.compactUpTo l0.toArray l0.length) else none
theorem compact_le (l : List Int) : (Go.Lib.compactUpTo l.toArray l.length).length ≤ l.length := by
 unfold Go.Lib.compactUpTo; rw [List.length_map]; exact Nat.le_trans (List.length_filter_le _ _) zz1m
theorem slices_Compact_int_int.calls (P0_ : Nat → Prop) (u9000_ : Value) (l0 : List Int) (r : List Int) (w0 w : World) (hB : Below w0.heap.size w0 w) (ho0 : Kd.R (Kd.int .i64) 3 w w0.heap.size P0_ u9000_ l0) (h : slices_Compact_int_int.f l0 = some r) :
 Calls Tryz.prog 89 #[u9000_] w fun e w' => ∃ v0_ : Value, e = .returned (v0_) ∧ Kd.R (Kd.int .i64) 3 w' w0.heap.size (fun k_ => (P0_ k_ ∨ w.heap.size ≤ k_)) v0_ r ∧ Below w0.heap.size w0 w' ∧ Kept w w' (fun k_ => P0_ k_) := by
 unfold slices_Compact_int_int.f at h; by_cases hl : l0.length < 4611686018427387904
 · rw [if_pos hl] at h; obtain rfl := Option.some.inj h; rcases R_ints ho0 with ⟨rfl, rfl⟩ | ⟨g, cap, cur, rfl, hok, hbg, hh, hn, hc, hs, ht⟩
   · go_enter Tryz.func89, Tryz.ntmps89; go_wp2; go_ret; exact ⟨_, rfl, Kd.R_nil _ _ _ _ _, hB, Kept.refl _ _⟩
   · have hg : g < w.heap.size := (Array.getElem?_eq_some_iff.1 hh).1; refine (AnyE.slices_Compact Tryz.cmpt (Value.int .i64) (fun _ => rfl) (EqlAt.intD _ _ .i64) (NeqAt.intD _ _ .i64) 0 Tryz.zeroValue3 g 0 cap l0.toArray w (Go.holds_of_blockI hh ht) (by simp; omega) (by simpa using hn)).mono fun e w' ⟨he, q, hw⟩ => ?_
     have hl2 := compact_le l0; have hsz : l0.toArray.size = l0.length := by simp
     rw [hsz] at he hw; rw [← Go.Sort.grow_empty (Go.Sort.putRow _ _ _ _ _)] at hw; subst hw; refine ⟨_, he, ?_, below_sorted _ hB hbg hB.size, kept_sorted _ hok⟩; have hh2 := Go.heap_sortedI (n := q) (os := #[]) (Go.Lib.compactUpTo l0.toArray l0.length ++ List.replicate (l0.length - (Go.Lib.compactUpTo l0.toArray l0.length).length) 0).toArray hh; refine R_of_block (cap := cap) (ok := fun k_ => (P0_ k_ ∨ w.heap.size ≤ k_)) (.inl hok) hbg hh2 zz1l hc (by simp [Go.Sort.putCells, hs]) ?_; have h3 := Go.take_putCellsI cur (Go.Lib.compactUpTo l0.toArray l0.length ++ List.replicate (l0.length - (Go.Lib.compactUpTo l0.toArray l0.length).length) 0) (by rw [List.length_append, List.length_replicate]; omega); have h4 := congrArg (fun l => l.take (Go.Lib.compactUpTo l0.toArray l0.length).length) h3; simp only [List.take_take, List.length_append] at h4; rw [Nat.min_eq_left zz1l] at h4; rw [h4, List.map_append, List.take_append_of_le_length zz1m, List.take_of_length_le zz1m]
 · rw [if_neg hl] at h; cases h
end Go.Proofs.YtkocahlifffgjaaGreat.P
namespace Go.Proofs.YtkocahlifffgjaaGreat.P
open Go.RowKit Go.Proofs.YtkocahlifffgjaaGreatW.PrintWords Go.Proofs.YtkocahlifffgjaaGreatW.PrintLast Go.Proofs.YtkocahlifffgjaaGreatW.PrintMore
attribute [local go_sem] max2_int min2_int max_two min_two max_three min_three max_four min_four
set_option linter.unusedVariables false
set_option linter.unusedSimpArgs false
def spec_l1Put.l0 : Nat → List Int → Int → Int → Option (List Int)
 | 0, _, _, _ => none
 | k + 1, x0, x1, x5 => if x5 < (x0.length : Int) then (if 0 ≤ x5 then (if (rd x0 x5) < x1 then (spec_l1Put.l0 k x0 x1 (wrap64 (x5 + 1))) else (if (rd x0 x5) = x1 then (some x0) else ((some (([] : List Int) : List Int)).bind fun gq => (if x5 ≤ (x0.length : Int) then ((some (x0.take (x5 : Int).toNat : List Int)).bind fun fq => (if gq.length + fq.length < 17592186044416 then ((some (gq ++ fq : List Int)).bind fun gI => (if gI.length < 17592186044416 then ((some (gI ++ [x1] : List Int)).bind fun cx => ((some (x0.drop (x5 : Int).toNat : List Int)).bind fun cy => (if cx.length + cy.length < 17592186044416 then (some (cx ++ cy)) else (none)))) else (none))) else (none))) else (none))))) else (none)) else ((some (([] : List Int) : List Int)).bind fun i3 => (if 0 ≤ x5 then (if x5 ≤ (x0.length : Int) then ((some (x0.take (x5 : Int).toNat : List Int)).bind fun fr => (if i3.length + fr.length < 17592186044416 then ((some (i3 ++ fr : List Int)).bind fun f8 => (if f8.length < 17592186044416 then ((some (f8 ++ [x1] : List Int)).bind fun dR => ((some (x0.drop (x5 : Int).toNat : List Int)).bind fun cE => (if dR.length + cE.length < 17592186044416 then (some (dR ++ cE)) else (none)))) else (none))) else (none))) else (none)) else (none)))
def spec_l1Put.f (k : Nat) (l0 : List Int) (a1 : Int) : Option (List Int) := spec_l1Put.l0 k l0 a1 0
set_option maxHeartbeats 8000000 in
set_option maxRecDepth 100000 in
theorem spec_l1Put.calls (k : Nat) (P0_ : Nat → Prop) (eR : Value) (l0 : List Int) (a1 : Int) (r : List Int) (w0 w : World) (hB : Below w0.heap.size w0 w) (cd : Kd.R (Kd.int .i64) 3 w w0.heap.size P0_ eR l0) (h : spec_l1Put.f k l0 a1 = some r) :
 Calls Tryz.prog 45 #[eR, .int .i64 a1] w fun e w' => ∃ eV : Value, e = .returned (eV) ∧ Kd.R (Kd.int .i64) 3 w' w0.heap.size (fun k_ => (P0_ k_ ∨ w.heap.size ≤ k_)) eV r ∧ Below w0.heap.size w0 w' ∧ Kept w w' (fun k_ => P0_ k_) := by
 have qw := zA (show Kd.R (Kd.int .i64) 3 w w0.heap.size (fun k_ => (P0_ k_ ∨ w.heap.size ≤ k_)) eR l0 from Kd.R_mono cd (fun k_ hk => (.inl hk))); have HK := zA (Kept.refl w (fun k_ => P0_ k_)); have HW0 := zA hB.size; have HB := zA hB; clear hB; have H : (spec_l1Put.l0 k l0 a1 0) = some r := h; clear h; have H' := zA H; clear H; go_enter Tryz.func45, Tryz.ntmps45; go_wp2; go_loopg [5] k (fun kq v5 w' => ∃ (ao : Int), v5 = .int .i64 ao ∧ Aside0 (spec_l1Put.l0 kq l0 a1 ao = some r) ∧ Aside0 (kq ≤ k) ∧ Aside0 (Kd.R (Kd.int .i64) 3 w' w0.heap.size (fun k_ => (P0_ k_ ∨ w.heap.size ≤ k_)) eR l0) ∧ Aside0 (Kept w w' (fun k_ => P0_ k_)) ∧ Aside0 (Below w0.heap.size w0 w'))
 case atStart => exact ⟨(0), zz12, H', ⟨Nat.le_refl _⟩, ⟨zz0y qw⟩, ⟨zz0k HK⟩, ⟨zz0u HB⟩⟩
 case round =>
  clear H'; (try clear p2); obtain ⟨ao, rfl, HA, bw, a7, HK, HB⟩ := hrel; cases gk with
  | zero => exact absurd HA.out (by simp [spec_l1Put.l0])
  | succ k1 =>
   have H := HA.out; clear HA; simp only [spec_l1Put.l0] at H; by_cases c3 : ao < (l0.length : Int)
   · rw [if_pos c3] at H; have cL := decide_eq_true c3; clear c3; replace H := zIn H; obtain ⟨c4, H⟩ := H; have cZ : decide (0 ≤ ao) = true := decide_eq_true c4; clear c4; by_cases c5 : (rd l0 ao) < a1
     · rw [if_pos c5] at H; have eQ := decide_eq_true c5; clear c5; have H' := zA H; clear H; obtain ⟨Ao6, sf, rJ⟩ := Kd.R_slice a7.out; subst rJ; have aH : 0 ≤ (ao : Int) := of_decide_eq_true zz1g; have aI : ao < (l0.length : Int) := of_decide_eq_true zz1g; obtain ⟨bf, bx, a9⟩ := Kd.at_int (Kd.R_reads' a7.out).2.2 ao aH aI; cases bx; replace aH := eq_true aH; replace aI := eq_true aI; go_wp2
       go_roundg k1
       case measure => have := bw.out; omega
       case rel => exact ⟨(wrap64 (ao + 1)), zz12, H', ⟨zz1b bw⟩, ⟨zz0y a7⟩, ⟨zz0k HK⟩, ⟨zz0u HB⟩⟩
     · rw [if_neg c5] at H; have eQ := decide_eq_false c5; clear c5; by_cases c7 : (rd l0 ao) = a1
       · rw [if_pos c7] at H; have dF : ((rd l0 ao) == a1) = true := beq_iff_eq.mpr c7; have kc : ((rd l0 ao) != a1) = false := bne_eq_false_iff_eq.mpr c7; clear c7; obtain rfl := Option.some.inj H; obtain ⟨rL, rM, rN⟩ := Kd.R_slice a7.out; subst rN; have aH : 0 ≤ (ao : Int) := of_decide_eq_true zz1g; have aI : ao < (l0.length : Int) := of_decide_eq_true zz1g; obtain ⟨bf, bx, a9⟩ := Kd.at_int (Kd.R_reads' a7.out).2.2 ao aH aI; cases bx; replace aH := eq_true aH; replace aI := eq_true aI; have b1 : 0 ≤ (ao : Int) := of_decide_eq_true zz1g; have b2 : ao < (l0.length : Int) := of_decide_eq_true zz1g; obtain ⟨dG, dl, b9⟩ := Kd.at_int (Kd.R_reads' a7.out).2.2 ao b1 b2; obtain rfl : bf = dG := (by injection dl)
         replace b1 := eq_true b1; replace b2 := eq_true b2; go_wp2; go_ret; exact ⟨_, zz0v, zz0y a7, zz0u HB, zz0k HK⟩
       · rw [if_neg c7] at H; have dF : ((rd l0 ao) == a1) = false := beq_eq_false_iff_ne.mpr c7; have kc : ((rd l0 ao) != a1) = true := bne_iff_ne.mpr c7; obtain ⟨gq, e_y⟩ : ∃ y_ : List Int, y_ = (([] : List Int)) := ⟨_, rfl⟩
         replace H : (if ao ≤ (l0.length : Int) then ((some (l0.take (ao : Int).toNat : List Int)).bind fun fq => (if gq.length + fq.length < 17592186044416 then ((some (gq ++ fq : List Int)).bind fun gI => (if gI.length < 17592186044416 then ((some (gI ++ [a1] : List Int)).bind fun cx => ((some (l0.drop (ao : Int).toNat : List Int)).bind fun cy => (if cx.length + cy.length < 17592186044416 then (some (cx ++ cy)) else (none)))) else (none))) else (none))) else (none)) = some r := zz05
         have jw := zA e_y; clear e_y; have eW := eq_true (of_decide_eq_true zz1g : 0 ≤ ao); replace H := zIn H; obtain ⟨fG, H⟩ := H; have gp := eq_true fG; have od : decide (ao ≤ (l0.length : Int)) = true := decide_eq_true fG; clear fG; obtain ⟨fq, e_y⟩ : ∃ y_ : List Int, y_ = (l0.take (ao : Int).toNat) := ⟨_, rfl⟩
         replace H : (if gq.length + fq.length < 17592186044416 then ((some (gq ++ fq : List Int)).bind fun gI => (if gI.length < 17592186044416 then ((some (gI ++ [a1] : List Int)).bind fun cx => ((some (l0.drop (ao : Int).toNat : List Int)).bind fun cy => (if cx.length + cy.length < 17592186044416 then (some (cx ++ cy)) else (none)))) else (none))) else (none)) = some r := zz05
         have jx := zA e_y; clear e_y; replace H := zIn H; obtain ⟨fy, H⟩ := H; have LMc11 := zA fy; clear fy; obtain ⟨gI, e_y⟩ : ∃ y_ : List Int, y_ = (gq ++ fq) := ⟨_, rfl⟩
         replace H : (if gI.length < 17592186044416 then ((some (gI ++ [a1] : List Int)).bind fun cx => ((some (l0.drop (ao : Int).toNat : List Int)).bind fun cy => (if cx.length + cy.length < 17592186044416 then (some (cx ++ cy)) else (none)))) else (none)) = some r := zz05
         have Ny110 := zA e_y; clear e_y; replace H := zIn H; obtain ⟨fN, H⟩ := H; have mh := zA fN; clear fN; obtain ⟨cx, e_y⟩ : ∃ y_ : List Int, y_ = (gI ++ [a1]) := ⟨_, rfl⟩
         replace H : ((some (l0.drop (ao : Int).toNat : List Int)).bind fun cy => (if cx.length + cy.length < 17592186044416 then (some (cx ++ cy)) else (none))) = some r := zz05
         have mi := zA e_y; clear e_y; have iw := eq_true (of_decide_eq_true zz1g : 0 ≤ ao); have jy := eq_true (of_decide_eq_true zz1g : ao ≤ (l0.length : Int)); obtain ⟨cy, e_y⟩ : ∃ y_ : List Int, y_ = (l0.drop (ao : Int).toNat) := ⟨_, rfl⟩
         replace H : (if cx.length + cy.length < 17592186044416 then (some (cx ++ cy)) else (none)) = some r := zz05
         have ix := zA e_y; clear e_y; replace H := zIn H; obtain ⟨hD, H⟩ := H; have LMc15 := zA hD; clear hD; obtain ⟨nC, e_y⟩ : ∃ y_ : List Int, y_ = (cx ++ cy) := ⟨_, rfl⟩
         replace H : (some nC) = some r := zz05
         have mj := zA e_y; clear e_y; obtain rfl := Option.some.inj H; obtain ⟨Ao16, g1, eo16⟩ := Kd.R_slice a7.out; subst eo16; have aH : 0 ≤ (ao : Int) := of_decide_eq_true zz1g; have aI : ao < (l0.length : Int) := of_decide_eq_true zz1g; obtain ⟨bf, bx, a9⟩ := Kd.at_int (Kd.R_reads' a7.out).2.2 ao aH aI; cases bx; replace aH := eq_true aH; replace aI := eq_true aI; have b1 : 0 ≤ (ao : Int) := of_decide_eq_true zz1g; have b2 : ao < (l0.length : Int) := of_decide_eq_true zz1g; obtain ⟨dG, dl, b9⟩ := Kd.at_int (Kd.R_reads' a7.out).2.2 ao b1 b2; obtain rfl : bf = dG := (by injection dl)
         replace b1 := eq_true b1; replace b2 := eq_true b2; go_wp2_with (first | ((with_reducible refine gate_dst (N := 34) rfl ?_); refine Kd.R_lit (Kd.int .i64) _ 3 ?hg (N := 34) ?hd (xs := ([] : List Int)) (inner := []) (ok := fun _ => True) (okp := fun _ => True) ?hr ?hp (fun _ hk => hk) trivial (Below.refl _ _) (Nat.le_refl _) zz1m ?_; (case hd => rfl); (case hg => rfl); (case hr => first | (go_simp; done) | (go_simp; rfl)); (case hp => exact (Reps.none _ _)); intro qH qm g2 hb hg_ hnew_; clear hg_ hnew_; (first | rw [← jw.out] at g2 | (simp only [Int.reduceToNat] at g2; rw [← jw.out] at g2)); have gS := zA (Kd.R_lower (Kd.R_new' (Kd.R_newM (M := fun k_ => (P0_ k_ ∨ w.heap.size ≤ k_)) g2 zz0a (fun k_ h_ => .inr h_)) (Kd.R_lt (zz0y a7))) (zF (zz0u HB))); replace a7 := zA (Kd.R_elder' (zz0y a7) (Kd.R_base g2) hb); replace HK := zA (Kept.below (S := (fun k_ => P0_ k_)) (zz0k HK) hb); replace HB := zA (zG (zz0u HB) hb); clear hb g2; have rO : (ao : Int) ≤ ((l0.length : Int) : Int) := of_decide_eq_true zz1g; obtain ⟨i019, oe, _, hsz19, _⟩ := info_parts info3; have hroom19 : l0.length ≤ g1 := (Kd.R_reads' a7.out).2.1; have hC19 : Kd.C (Kd.int .i64) _ (some bf) l0.length l0 := (Kd.R_reads' a7.out).2.2; have hcut19 := cut_to (P := Tryz.prog) 23 3 .i64 Tryz.underlying23 oe (some bf) l0.length g1 ao (of_decide_eq_true zz1g) rO hroom19; have pj := Kd.C_take (m := (ao : Int).toNat) hC19 zz1l; have pk : fq.length = (ao : Int).toNat := (by rw [jx.out, List.length_take]; omega); rw [← jx.out] at pj; rw [← pk] at hcut19; have jz := zA pj; have HC109 := zA (show fq.length ≤ g1 from by omega); clear pj hC19 hroom19 oe hsz19; have KY19 := zA pk; clear pk; have KL19 := zA (show (ao : Int).toNat ≤ l0.length from by omega); replace rO := eq_true rO) | ((with_reducible refine gate_builtin (b := .append) (xs := #[.tmp 34, .tmp 37]) rfl ?_); at_builtin; refine Kd.R_append_rows (Kd.int .i64) (w0 := w0) w0.heap.size rfl (.tmp 34) (.tmp 37) 23 3 (.int .i64 0) 8 rfl Tryz.underlying23 info3 rfl zz1k zz1l qH gq fq _ _ _ (fun k_ => (P0_ k_ ∨ w.heap.size ≤ k_) ∧ some k_ ≠ (.slice (some bf) l0.length g1 : Value).ownBlock) (fun _ => False) rfl rfl ?aO ?aR (fun _ _ h => h) (fun _ h => h.elim) ?aF ?aB ?aS ?aL ?_; (case aR => repeat (first | exact (zz0n jz) | refine zP ?_ _ | refine zQ ?_ _ | refine zR ?_)); (case aB => exact (zz0u HB)); (case aF => exact (fun k_ hk => ⟨(.inr (Nat.le_trans zz0a hk)), Kd.fresh' (Kd.R_lt (zz0y a7)) k_ hk⟩)); (case aO => exact (by (with_reducible repeat (first | apply zT | apply zU | apply zV)); exact Kd.R_mono gS.out (fun _ hk => ⟨hk.1.1, hk.2⟩))); (case aS => exact (zF (zz0u HB))); (case aL => have := LMc11.out; omega); intro nA qI ho hb hg hat; rw [← Ny110.out] at ho; replace HB := zA (hb); replace HK := zA (Kept.of_grown (S := (fun k_ => P0_ k_)) hg (zz0k HK) (fun k_ e_ => (gS.out.1 k_ e_).1.1)); replace jz := zA ((show Kd.C (Kd.int .i64) qI (some bf) fq.length fq from by rw [jx.out]; exact Kd.C_take (m := (ao : Int).toNat) ((Kd.R_reads' (Kd.R_after (ok := (fun k_ => (P0_ k_ ∨ w.heap.size ≤ k_))) (zz0y a7) hg hat)).2.2) KL19.out)); replace a7 := zA (Kd.R_after (ok := (fun k_ => (P0_ k_ ∨ w.heap.size ≤ k_))) (zz0y a7) hg hat); have cO := zA (ho); clear gS; clear ho hb hg hat) | ((with_reducible refine gate_builtin (b := .append) (xs := #[.tmp 39, .tmp 41]) rfl ?_); at_builtin; refine Kd.R_append (Kd.int .i64) (w0 := w0) w0.heap.size rfl (.tmp 39) (.tmp 41) 23 3 (.int .i64 0) 8 rfl Tryz.underlying23 info3 rfl zz1k zz1l nA gI a1 [.int .i64 a1] (fun k_ => (P0_ k_ ∨ w.heap.size ≤ k_) ∧ some k_ ≠ (.slice (some bf) l0.length g1 : Value).ownBlock) (fun _ => False) rfl rfl ?aP (fun _ hk => hk.elim) ?aF ?aO ?aB ?aS ?aL ?_; (case aP => exact rfl); (case aB => exact (zz0u HB)); (case aF => exact (fun k_ hk => ⟨(.inr (Nat.le_trans zz0a hk)), Kd.fresh' (Kd.R_lt (zz0y a7)) k_ hk⟩)); (case aO => exact (zz0y cO)); (case aS => exact (zF (zz0u HB))); (case aL => have := mh.out; omega); intro d5 sm ho hb hg hat; rw [← mi.out] at ho; replace HB := zA (hb); replace HK := zA (Kept.of_grown (S := (fun k_ => P0_ k_)) hg (zz0k HK) (fun k_ e_ => (cO.out.1 k_ e_).1)); replace jz := zA ((show Kd.C (Kd.int .i64) sm (some bf) fq.length fq from by rw [jx.out]; exact Kd.C_take (m := (ao : Int).toNat) ((Kd.R_reads' (Kd.R_after (ok := (fun k_ => (P0_ k_ ∨ w.heap.size ≤ k_))) (zz0y a7) hg hat)).2.2) KL19.out)); replace a7 := zA (Kd.R_after (ok := (fun k_ => (P0_ k_ ∨ w.heap.size ≤ k_))) (zz0y a7) hg hat); have dj := zA (ho); clear cO; clear ho hb hg hat; have rP : (ao : Int) ≤ ((l0.length : Int) : Int) := of_decide_eq_true zz1g; obtain ⟨i022, og, _, hsz22, _⟩ := info_parts info3; have hroom22 : l0.length ≤ g1 := (Kd.R_reads' a7.out).2.1; have hC22 : Kd.C (Kd.int .i64) _ (some bf) l0.length l0 := (Kd.R_reads' a7.out).2.2; have q022 : (0 : Int) ≤ (ao : Int) := of_decide_eq_true zz1g; have hcut22 := cut_from (P := Tryz.prog) 23 3 .i64 Tryz.underlying23 og 1 hsz22 (some bf) l0.length g1 ao q022 rP; have ml := Kd.C_drop (m := (ao : Int).toNat) (c := g1) hC22 zz1l hroom22; obtain ⟨sn, hA22⟩ : ∃ A1, A1 = (if g1 = (ao : Int).toNat then (some bf) else ((some bf) : Option Addr).map (·.add ((ao : Int).toNat * 1))) := ⟨_, rfl⟩; obtain ⟨io, pl⟩ : ∃ c1, c1 = g1 - (ao : Int).toNat := ⟨_, rfl⟩; have nD : cy.length = l0.length - (ao : Int).toNat := (by rw [ix.out, List.length_drop] <;> omega); rw [show (l0).drop (ao : Int).toNat = cy from ix.out.symm] at ml; replace ml : Kd.C (Kd.int .i64) _ sn cy.length cy := (by rw [hA22]; exact ml); rw [← nD, ← hA22, ← pl] at hcut22; have mm := zA ml; have HC119 := zA (show cy.length ≤ io from by rw [nD, pl]; exact Nat.sub_le_sub_right hroom22 _); clear ml hC22 hroom22 og hsz22 pl; have KY22 := zA nD; have KA22 := zA hA22; clear nD hA22; have KL22 := zA (show (ao : Int).toNat ≤ l0.length from by omega); replace rP := eq_true rP) | ((with_reducible refine gate_builtin (b := .append) (xs := #[.tmp 43, .tmp 46]) rfl ?_); at_builtin; refine Kd.R_append_rows (Kd.int .i64) (w0 := w0) w0.heap.size rfl (.tmp 43) (.tmp 46) 23 3 (.int .i64 0) 8 rfl Tryz.underlying23 info3 rfl zz1k zz1l d5 cx cy _ _ _ (fun k_ => (P0_ k_ ∨ w.heap.size ≤ k_) ∧ some k_ ≠ (.slice (some bf) l0.length g1 : Value).ownBlock) (fun _ => False) rfl rfl ?aO ?aR (fun _ _ h => h) (fun _ h => h.elim) ?aF ?aB ?aS ?aL ?_; (case aR => repeat (first | exact (zz0n mm) | refine zP ?_ _ | refine zQ ?_ _ | refine zR ?_)); (case aB => exact (zz0u HB)); (case aF => exact (fun k_ hk => ⟨(.inr (Nat.le_trans zz0a hk)), Kd.fresh' (Kd.R_lt (zz0y a7)) k_ hk⟩)); (case aO => exact (zz0y dj)); (case aS => exact (zF (zz0u HB))); (case aL => have := LMc15.out; omega); intro v121 qn ho hb hg hat; rw [← mj.out] at ho; replace HB := zA (hb); replace HK := zA (Kept.of_grown (S := (fun k_ => P0_ k_)) hg (zz0k HK) (fun k_ e_ => (dj.out.1 k_ e_).1)); replace jz := zA ((show Kd.C (Kd.int .i64) qn (some bf) fq.length fq from by rw [jx.out]; exact Kd.C_take (m := (ao : Int).toNat) ((Kd.R_reads' (Kd.R_after (ok := (fun k_ => (P0_ k_ ∨ w.heap.size ≤ k_))) (zz0y a7) hg hat)).2.2) KL19.out)); replace mm := zA ((show Kd.C (Kd.int .i64) qn sn cy.length cy from by rw [ix.out, KA22.out]; exact Kd.C_drop (m := (ao : Int).toNat) (c := g1) ((Kd.R_reads' (Kd.R_after (ok := (fun k_ => (P0_ k_ ∨ w.heap.size ≤ k_))) (zz0y a7) hg hat)).2.2) KL22.out ((Kd.R_reads' (Kd.R_after (ok := (fun k_ => (P0_ k_ ∨ w.heap.size ≤ k_))) (zz0y a7) hg hat)).2.1))); replace a7 := zA (Kd.R_after (ok := (fun k_ => (P0_ k_ ∨ w.heap.size ≤ k_))) (zz0y a7) hg hat); have mn := zA (ho); clear dj; clear ho hb hg hat)); go_ret; exact ⟨_, zz0v, zz0o mn, zz0u HB, zz0k HK⟩
   · rw [if_neg c3] at H; have cL := decide_eq_false c3; clear c3; obtain ⟨i3, e_y⟩ : ∃ y_ : List Int, y_ = (([] : List Int)) := ⟨_, rfl⟩
     replace H : (if 0 ≤ ao then (if ao ≤ (l0.length : Int) then ((some (l0.take (ao : Int).toNat : List Int)).bind fun fr => (if i3.length + fr.length < 17592186044416 then ((some (i3 ++ fr : List Int)).bind fun f8 => (if f8.length < 17592186044416 then ((some (f8 ++ [a1] : List Int)).bind fun dR => ((some (l0.drop (ao : Int).toNat : List Int)).bind fun cE => (if dR.length + cE.length < 17592186044416 then (some (dR ++ cE)) else (none)))) else (none))) else (none))) else (none)) else (none)) = some r := zz05
     have oh := zA e_y; clear e_y; replace H := zIn H; obtain ⟨i4, H⟩ := H; have iy := eq_true i4; have oi : decide (0 ≤ ao) = true := decide_eq_true i4; clear i4; replace H := zIn H; obtain ⟨jA, H⟩ := H; have jB := eq_true jA; have oj : decide (ao ≤ (l0.length : Int)) = true := decide_eq_true jA; clear jA; obtain ⟨fr, e_y⟩ : ∃ y_ : List Int, y_ = (l0.take (ao : Int).toNat) := ⟨_, rfl⟩
     replace H : (if i3.length + fr.length < 17592186044416 then ((some (i3 ++ fr : List Int)).bind fun f8 => (if f8.length < 17592186044416 then ((some (f8 ++ [a1] : List Int)).bind fun dR => ((some (l0.drop (ao : Int).toNat : List Int)).bind fun cE => (if dR.length + cE.length < 17592186044416 then (some (dR ++ cE)) else (none)))) else (none))) else (none)) = some r := zz05
     have jC := zA e_y; clear e_y; replace H := zIn H; obtain ⟨ma, H⟩ := H; have LMc26 := zA ma; clear ma; obtain ⟨f8, e_y⟩ : ∃ y_ : List Int, y_ = (i3 ++ fr) := ⟨_, rfl⟩
     replace H : (if f8.length < 17592186044416 then ((some (f8 ++ [a1] : List Int)).bind fun dR => ((some (l0.drop (ao : Int).toNat : List Int)).bind fun cE => (if dR.length + cE.length < 17592186044416 then (some (dR ++ cE)) else (none)))) else (none)) = some r := zz05
     have mo := zA e_y; clear e_y; replace H := zIn H; obtain ⟨gJ, H⟩ := H; have LMc27 := zA gJ; clear gJ; obtain ⟨dR, e_y⟩ : ∃ y_ : List Int, y_ = (f8 ++ [a1]) := ⟨_, rfl⟩
     replace H : ((some (l0.drop (ao : Int).toNat : List Int)).bind fun cE => (if dR.length + cE.length < 17592186044416 then (some (dR ++ cE)) else (none))) = some r := zz05
     have k8 := zA e_y; clear e_y; have jD := eq_true (of_decide_eq_true zz1g : 0 ≤ ao); have c29b0 := eq_true (of_decide_eq_true zz1g : ao ≤ (l0.length : Int)); obtain ⟨cE, e_y⟩ : ∃ y_ : List Int, y_ = (l0.drop (ao : Int).toNat) := ⟨_, rfl⟩
     replace H : (if dR.length + cE.length < 17592186044416 then (some (dR ++ cE)) else (none)) = some r := zz05
     have iz := zA e_y; clear e_y; replace H := zIn H; obtain ⟨jE, H⟩ := H; have LMc30 := zA jE; clear jE; obtain ⟨y140, e_y⟩ : ∃ y_ : List Int, y_ = (dR ++ cE) := ⟨_, rfl⟩
     replace H : (some y140) = some r := zz05
     have Ny140 := zA e_y; clear e_y; obtain rfl := Option.some.inj H; obtain ⟨f9, ga, pm⟩ := Kd.R_slice a7.out; subst pm; go_wp2_with (first | ((with_reducible refine gate_dst (N := 34) rfl ?_); refine Kd.R_lit (Kd.int .i64) _ 3 ?hg (N := 34) ?hd (xs := ([] : List Int)) (inner := []) (ok := fun _ => True) (okp := fun _ => True) ?hr ?hp (fun _ hk => hk) trivial (Below.refl _ _) (Nat.le_refl _) zz1m ?_; (case hd => rfl); (case hg => rfl); (case hr => first | (go_simp; done) | (go_simp; rfl)); (case hp => exact (Reps.none _ _)); intro v124 so lL hb hg_ hnew_; clear hg_ hnew_; (first | rw [← oh.out] at lL | (simp only [Int.reduceToNat] at lL; rw [← oh.out] at lL)); have mq := zA (Kd.R_lower (Kd.R_new' (Kd.R_newM (M := fun k_ => (P0_ k_ ∨ w.heap.size ≤ k_)) lL zz0a (fun k_ h_ => .inr h_)) (Kd.R_lt (zz0y a7))) (zF (zz0u HB))); replace a7 := zA (Kd.R_elder' (zz0y a7) (Kd.R_base lL) hb); replace HK := zA (Kept.below (S := (fun k_ => P0_ k_)) (zz0k HK) hb); replace HB := zA (zG (zz0u HB) hb); clear hb lL; have rQ : (ao : Int) ≤ ((l0.length : Int) : Int) := of_decide_eq_true zz1g; obtain ⟨i034, ol, _, hsz34, _⟩ := info_parts info3; have hroom34 : l0.length ≤ ga := (Kd.R_reads' a7.out).2.1; have hC34 : Kd.C (Kd.int .i64) _ f9 l0.length l0 := (Kd.R_reads' a7.out).2.2; have hcut34 := cut_to (P := Tryz.prog) 23 3 .i64 Tryz.underlying23 ol f9 l0.length ga ao (of_decide_eq_true zz1g) rQ hroom34; have pn := Kd.C_take (m := (ao : Int).toNat) hC34 zz1l; have po : fr.length = (ao : Int).toNat := (by rw [jC.out, List.length_take]; omega); rw [← jC.out] at pn; rw [← po] at hcut34; have jF := zA pn; have HC129 := zA (show fr.length ≤ ga from by omega); clear pn hC34 hroom34 ol hsz34; have KY34 := zA po; clear po; have KL34 := zA (show (ao : Int).toNat ≤ l0.length from by omega); replace rQ := eq_true rQ) | ((with_reducible refine gate_builtin (b := .append) (xs := #[.tmp 34, .tmp 37]) rfl ?_); at_builtin; refine Kd.R_append_rows (Kd.int .i64) (w0 := w0) w0.heap.size rfl (.tmp 34) (.tmp 37) 23 3 (.int .i64 0) 8 rfl Tryz.underlying23 info3 rfl zz1k zz1l v124 i3 fr _ _ _ (fun k_ => (P0_ k_ ∨ w.heap.size ≤ k_) ∧ some k_ ≠ (.slice f9 l0.length ga : Value).ownBlock) (fun _ => False) rfl rfl ?aO ?aR (fun _ _ h => h) (fun _ h => h.elim) ?aF ?aB ?aS ?aL ?_; (case aR => repeat (first | exact (zz0n jF) | refine zP ?_ _ | refine zQ ?_ _ | refine zR ?_)); (case aB => exact (zz0u HB)); (case aF => exact (fun k_ hk => ⟨(.inr (Nat.le_trans zz0a hk)), Kd.fresh' (Kd.R_lt (zz0y a7)) k_ hk⟩)); (case aO => exact (by (with_reducible repeat (first | apply zT | apply zU | apply zV)); exact Kd.R_mono mq.out (fun _ hk => ⟨hk.1.1, hk.2⟩))); (case aS => exact (zF (zz0u HB))); (case aL => have := LMc26.out; omega); intro qJ rD ho hb hg hat; rw [← mo.out] at ho; replace HB := zA (hb); replace HK := zA (Kept.of_grown (S := (fun k_ => P0_ k_)) hg (zz0k HK) (fun k_ e_ => (mq.out.1 k_ e_).1.1)); replace jF := zA ((show Kd.C (Kd.int .i64) rD f9 fr.length fr from by rw [jC.out]; exact Kd.C_take (m := (ao : Int).toNat) ((Kd.R_reads' (Kd.R_after (ok := (fun k_ => (P0_ k_ ∨ w.heap.size ≤ k_))) (zz0y a7) hg hat)).2.2) KL34.out)); replace a7 := zA (Kd.R_after (ok := (fun k_ => (P0_ k_ ∨ w.heap.size ≤ k_))) (zz0y a7) hg hat); have jG := zA (ho); clear mq; clear ho hb hg hat) | ((with_reducible refine gate_builtin (b := .append) (xs := #[.tmp 39, .tmp 41]) rfl ?_); at_builtin; refine Kd.R_append (Kd.int .i64) (w0 := w0) w0.heap.size rfl (.tmp 39) (.tmp 41) 23 3 (.int .i64 0) 8 rfl Tryz.underlying23 info3 rfl zz1k zz1l qJ f8 a1 [.int .i64 a1] (fun k_ => (P0_ k_ ∨ w.heap.size ≤ k_) ∧ some k_ ≠ (.slice f9 l0.length ga : Value).ownBlock) (fun _ => False) rfl rfl ?aP (fun _ hk => hk.elim) ?aF ?aO ?aB ?aS ?aL ?_; (case aP => exact rfl); (case aB => exact (zz0u HB)); (case aF => exact (fun k_ hk => ⟨(.inr (Nat.le_trans zz0a hk)), Kd.fresh' (Kd.R_lt (zz0y a7)) k_ hk⟩)); (case aO => exact (zz0y jG)); (case aS => exact (zF (zz0u HB))); (case aL => have := LMc27.out; omega); intro mr rR ho hb hg hat; rw [← k8.out] at ho; replace HB := zA (hb); replace HK := zA (Kept.of_grown (S := (fun k_ => P0_ k_)) hg (zz0k HK) (fun k_ e_ => (jG.out.1 k_ e_).1)); replace jF := zA ((show Kd.C (Kd.int .i64) rR f9 fr.length fr from by rw [jC.out]; exact Kd.C_take (m := (ao : Int).toNat) ((Kd.R_reads' (Kd.R_after (ok := (fun k_ => (P0_ k_ ∨ w.heap.size ≤ k_))) (zz0y a7) hg hat)).2.2) KL34.out)); replace a7 := zA (Kd.R_after (ok := (fun k_ => (P0_ k_ ∨ w.heap.size ≤ k_))) (zz0y a7) hg hat); have iA := zA (ho); clear jG; clear ho hb hg hat; have rS : (ao : Int) ≤ ((l0.length : Int) : Int) := of_decide_eq_true zz1g; obtain ⟨i037, om, _, hsz37, _⟩ := info_parts info3; have hroom37 : l0.length ≤ ga := (Kd.R_reads' a7.out).2.1; have hC37 : Kd.C (Kd.int .i64) _ f9 l0.length l0 := (Kd.R_reads' a7.out).2.2; have q037 : (0 : Int) ≤ (ao : Int) := of_decide_eq_true zz1g; have hcut37 := cut_from (P := Tryz.prog) 23 3 .i64 Tryz.underlying23 om 1 hsz37 f9 l0.length ga ao q037 rS; have ms := Kd.C_drop (m := (ao : Int).toNat) (c := ga) hC37 zz1l hroom37; obtain ⟨rE, hA37⟩ : ∃ A1, A1 = (if ga = (ao : Int).toNat then f9 else (f9 : Option Addr).map (·.add ((ao : Int).toNat * 1))) := ⟨_, rfl⟩; obtain ⟨ka, pp⟩ : ∃ c1, c1 = ga - (ao : Int).toNat := ⟨_, rfl⟩; have nE : cE.length = l0.length - (ao : Int).toNat := (by rw [iz.out, List.length_drop] <;> omega); rw [show (l0).drop (ao : Int).toNat = cE from iz.out.symm] at ms; replace ms : Kd.C (Kd.int .i64) _ rE cE.length cE := (by rw [hA37]; exact ms); rw [← nE, ← hA37, ← pp] at hcut37; have mt := zA ms; have HC139 := zA (show cE.length ≤ ka from by rw [nE, pp]; exact Nat.sub_le_sub_right hroom37 _); clear ms hC37 hroom37 om hsz37 pp; have KY37 := zA nE; have KA37 := zA hA37; clear nE hA37; have KL37 := zA (show (ao : Int).toNat ≤ l0.length from by omega); replace rS := eq_true rS) | ((with_reducible refine gate_builtin (b := .append) (xs := #[.tmp 43, .tmp 46]) rfl ?_); at_builtin; refine Kd.R_append_rows (Kd.int .i64) (w0 := w0) w0.heap.size rfl (.tmp 43) (.tmp 46) 23 3 (.int .i64 0) 8 rfl Tryz.underlying23 info3 rfl zz1k zz1l mr dR cE _ _ _ (fun k_ => (P0_ k_ ∨ w.heap.size ≤ k_) ∧ some k_ ≠ (.slice f9 l0.length ga : Value).ownBlock) (fun _ => False) rfl rfl ?aO ?aR (fun _ _ h => h) (fun _ h => h.elim) ?aF ?aB ?aS ?aL ?_; (case aR => repeat (first | exact (zz0n mt) | refine zP ?_ _ | refine zQ ?_ _ | refine zR ?_)); (case aB => exact (zz0u HB)); (case aF => exact (fun k_ hk => ⟨(.inr (Nat.le_trans zz0a hk)), Kd.fresh' (Kd.R_lt (zz0y a7)) k_ hk⟩)); (case aO => exact (zz0y iA)); (case aS => exact (zF (zz0u HB))); (case aL => have := LMc30.out; omega); intro v141 qK ho hb hg hat; rw [← Ny140.out] at ho; replace HB := zA (hb); replace HK := zA (Kept.of_grown (S := (fun k_ => P0_ k_)) hg (zz0k HK) (fun k_ e_ => (iA.out.1 k_ e_).1)); replace jF := zA ((show Kd.C (Kd.int .i64) qK f9 fr.length fr from by rw [jC.out]; exact Kd.C_take (m := (ao : Int).toNat) ((Kd.R_reads' (Kd.R_after (ok := (fun k_ => (P0_ k_ ∨ w.heap.size ≤ k_))) (zz0y a7) hg hat)).2.2) KL34.out)); replace mt := zA ((show Kd.C (Kd.int .i64) qK rE cE.length cE from by rw [iz.out, KA37.out]; exact Kd.C_drop (m := (ao : Int).toNat) (c := ga) ((Kd.R_reads' (Kd.R_after (ok := (fun k_ => (P0_ k_ ∨ w.heap.size ≤ k_))) (zz0y a7) hg hat)).2.2) KL37.out ((Kd.R_reads' (Kd.R_after (ok := (fun k_ => (P0_ k_ ∨ w.heap.size ≤ k_))) (zz0y a7) hg hat)).2.1))); replace a7 := zA (Kd.R_after (ok := (fun k_ => (P0_ k_ ∨ w.heap.size ≤ k_))) (zz0y a7) hg hat); have HO142 := zA (ho); clear iA; clear ho hb hg hat)); go_ret; exact ⟨_, zz0v, zz0o HO142, zz0u HB, zz0k HK⟩
def spec_l1Has.l0 : Nat → Int → List Int → Int → Int → Option (Bool)
 | 0, _, _, _, _ => none
 | k + 1, x1, x7, x8, x9 => if x9 < x8 then (if 0 ≤ x9 then (if x9 < (x7.length : Int) then (if (rd x7 x9) = x1 then (some true) else (spec_l1Has.l0 k x1 x7 x8 (wrap64 (x9 + 1)))) else (none)) else (none)) else (some false)
def spec_l1Has.f (k : Nat) (l0 : List Int) (a1 : Int) : Option (Bool) := spec_l1Has.l0 k a1 l0 (l0.length : Int) 0
set_option maxHeartbeats 8000000 in
set_option maxRecDepth 100000 in
theorem spec_l1Has.calls (k : Nat) (A0 : Option Addr) (c0 : Nat) (l0 : List Int) (a1 : Int) (r : Bool) (w : World) (dA : Kd.C (Kd.int .i64) w A0 l0.length l0) (dB : l0.length ≤ c0) (h : spec_l1Has.f k l0 a1 = some r) :
 Calls Tryz.prog 65 #[.slice A0 l0.length c0, .int .i64 a1] w fun e w' => e = .returned (.bool r) ∧ Drawn0 w w' := by
 have dm := zA dA; have im := zA dB; clear dA dB; have H : (spec_l1Has.l0 k a1 l0 (l0.length : Int) 0) = some r := h; clear h; have H' := zA H; clear H; go_enter Tryz.func65, Tryz.ntmps65; go_wp2; go_loopg [9] k (fun kq v9 w' => ∃ (ca : Int), v9 = .int .i64 ca ∧ Aside0 (spec_l1Has.l0 kq a1 l0 (l0.length : Int) ca = some r) ∧ Aside0 (kq ≤ k) ∧ Drawn0 w w')
 case atStart => exact ⟨(0), zz12, H', ⟨Nat.le_refl _⟩, zz10⟩
 case round =>
  clear H'; (try clear p2); obtain ⟨ca, rfl, HA, bw, ⟨m1, rfl⟩⟩ := hrel; cases gk with
  | zero => exact absurd HA.out (by simp [spec_l1Has.l0])
  | succ k1 =>
   have H := HA.out; clear HA; simp only [spec_l1Has.l0] at H; by_cases c3 : ca < (l0.length : Int)
   · rw [if_pos c3] at H; have cL := decide_eq_true c3; clear c3; replace H := zIn H; obtain ⟨c4, H⟩ := H; have cZ : decide (0 ≤ ca) = true := decide_eq_true c4; clear c4; replace H := zIn H; obtain ⟨c5, H⟩ := H; have eQ : decide (ca < (l0.length : Int)) = true := decide_eq_true c5; clear c5; by_cases c6 : (rd l0 ca) = a1
     · rw [if_pos c6] at H; have dk : ((rd l0 ca) == a1) = true := beq_iff_eq.mpr c6; have hE : ((rd l0 ca) != a1) = false := bne_eq_false_iff_eq.mpr c6; clear c6; obtain rfl := Option.some.inj H; have aH : 0 ≤ (ca : Int) := of_decide_eq_true zz1g; have aI : ca < (l0.length : Int) := of_decide_eq_true zz1g; obtain ⟨bf, bx, a9⟩ := Kd.at_int dm.out ca aH aI; cases bx; replace aH := eq_true aH; replace aI := eq_true aI; go_wp2; go_ret; exact ⟨zz12, zz10⟩
     · rw [if_neg c6] at H; have dk : ((rd l0 ca) == a1) = false := beq_eq_false_iff_ne.mpr c6; have hE : ((rd l0 ca) != a1) = true := bne_iff_ne.mpr c6; have H' := zA H; clear H; have aH : 0 ≤ (ca : Int) := of_decide_eq_true zz1g; have aI : ca < (l0.length : Int) := of_decide_eq_true zz1g; obtain ⟨bf, bx, a9⟩ := Kd.at_int dm.out ca aH aI; cases bx; replace aH := eq_true aH; replace aI := eq_true aI; go_wp2
       go_roundg k1
       case measure => have := bw.out; omega
       case rel => exact ⟨(wrap64 (ca + 1)), zz12, H', ⟨zz1b bw⟩, zz10⟩
   · rw [if_neg c3] at H; have cL := decide_eq_false c3; clear c3; obtain rfl := Option.some.inj H; go_wp2; go_ret; exact ⟨zz12, zz10⟩
def spec_l1Own.f (l0 : List Int) : Option (List Int) := (some (([] : List Int) : List Int)).bind fun dx => (if dx.length + l0.length < 17592186044416 then (some (dx ++ l0)) else (none))
set_option maxHeartbeats 8000000 in
set_option maxRecDepth 100000 in
theorem spec_l1Own.calls (A0 : Option Addr) (c0 : Nat) (l0 : List Int) (r : List Int) (w : World) (dA : Kd.C (Kd.int .i64) w A0 l0.length l0) (dB : l0.length ≤ c0) (h : spec_l1Own.f l0 = some r) :
 Calls Tryz.prog 66 #[.slice A0 l0.length c0] w fun e w' => ∃ eV : Value, e = .returned (eV) ∧ Kd.R (Kd.int .i64) 3 w' w.heap.size (fun _ => True) eV r ∧ Below w.heap.size w w' := by
 have dm := zA dA; have im := zA dB; clear dA dB; have HB := zA (Below.refl w.heap.size w); have H : ((some (([] : List Int) : List Int)).bind fun dx => (if dx.length + l0.length < 17592186044416 then (some (dx ++ l0)) else (none))) = some r := h; clear h; obtain ⟨dx, e_y⟩ : ∃ y_ : List Int, y_ = (([] : List Int)) := ⟨_, rfl⟩
 replace H : (if dx.length + l0.length < 17592186044416 then (some (dx ++ l0)) else (none)) = some r := zz05
 have eU := zA e_y; clear e_y; replace H := zIn H; obtain ⟨c2, H⟩ := H; have LMc2 := zA c2; clear c2; obtain ⟨gb, e_y⟩ : ∃ y_ : List Int, y_ = (dx ++ l0) := ⟨_, rfl⟩
 replace H : (some gb) = some r := zz05
 have mu := zA e_y; clear e_y; obtain rfl := Option.some.inj H; go_enter Tryz.func66, Tryz.ntmps66; go_wp2_with (first | ((with_reducible refine gate_dst (N := 3) rfl ?_); refine Kd.R_lit (Kd.int .i64) _ 3 ?hg (N := 3) ?hd (xs := ([] : List Int)) (inner := []) (ok := fun _ => True) (okp := fun _ => True) ?hr ?hp (fun _ hk => hk) trivial (Below.refl _ _) (Nat.le_refl _) zz1m ?_; (case hd => rfl); (case hg => rfl); (case hr => first | (go_simp; done) | (go_simp; rfl)); (case hp => exact (Reps.none _ _)); intro js w3 qL hb hg_ hnew_; clear hg_ hnew_; (first | rw [← eU.out] at qL | (simp only [Int.reduceToNat] at qL; rw [← eU.out] at qL)); have fA := zA (Kd.R_lower qL (zF (zz0u HB))); replace HB := zA (zG (zz0u HB) hb); clear hb qL) | ((with_reducible refine gate_builtin (b := .append) (xs := #[.tmp 3, .tmp 4]) rfl ?_); at_builtin; refine Kd.R_append_rows (Kd.int .i64) (w0 := w) w.heap.size rfl (.tmp 3) (.tmp 4) 23 3 (.int .i64 0) 8 rfl Tryz.underlying23 info3 rfl zz1k zz1l js dx l0 _ _ _ (fun _ => True) (fun _ => False) rfl rfl ?aO ?aR (fun _ _ h => h) (fun _ h => h.elim) ?aF ?aB ?aS ?aL ?_; (case aR => exact (zz0x dm HB)); (case aB => exact (zz0u HB)); (case aF => exact (fun _ _ => trivial)); (case aO => exact (zz0y fA)); (case aS => exact (zF (zz0u HB))); (case aL => have := LMc2.out; omega); intro mg w5 ho hb hg hat; rw [← mu.out] at ho; replace HB := zA (hb); have cQ := zA (ho); clear fA; clear ho hb hg hat)); go_ret; exact ⟨_, zz0v, zz0y cQ, zz0u HB⟩
end Go.Proofs.YtkocahlifffgjaaGreat.P
namespace Go.Proofs.YtkocahlifffgjaaGreat.P
open Go.RowKit Go.Proofs.YtkocahlifffgjaaGreatW.PrintWords
set_option linter.unusedVariables false
set_option linter.unusedSimpArgs false
theorem wsuccL {i n : Nat} (h : i < n) (hn : n ≤ 9223372036854775807) : wrap64 ((i : Int) + 1) = ((i + 1 : Nat) : Int) := by unfold wrap64; omega
theorem putI_split (a b : List Int) (n : Int) (h : ∀ x, x ∈ a → x < n) : putI (a ++ b) n = a ++ putI b n := by
 induction a with
 | nil => rfl
 | cons x a ih =>
  have h1 := h x List.mem_cons_self; show (if x < n then x :: putI (a ++ b) n else _) = _; rw [if_pos h1, ih fun y hy => h y (List.mem_cons_of_mem _ hy)]; rfl
theorem mem_take_rd {l : List Int} {i : Nat} {x : Int} (h : x ∈ l.take i) : ∃ j : Nat, j < i ∧ j < l.length ∧ rd l j = x := by
 obtain ⟨j, hj, rfl⟩ := List.getElem_of_mem h; rw [List.length_take] at hj; refine ⟨j, zz1l, zz1l, ?_⟩; unfold rd; rw [List.getElem_take, Int.toNat_natCast, List.getD_eq_getElem?_getD, List.getElem?_eq_getElem zz1l]; rfl
theorem put_loop (l : List Int) (n : Int) (hl : l.length < 17592186044415) (d : Nat) : ∀ (k i : Nat), i ≤ l.length → l.length - i = d → d < k → (∀ j : Nat, j < i → rd l j < n) → spec_l1Put.l0 k l n i = some (putI l n) := by
 have hb : l.length ≤ 9223372036854775807 := by omega
 induction d with
 | zero =>
  intro k i h1 hd hk hp; obtain ⟨k, rfl⟩ : ∃ m, k = m + 1 := ⟨k - 1, zz1l⟩
  have hi : i = l.length := by omega
  subst hi; have e : putI l n = l ++ [n] := by
   have := putI_split l [] n (fun x hx => by
    obtain ⟨j, hj1, hj2, rfl⟩ := mem_take_rd (i := l.length) (by rw [List.take_length]; exact hx); exact hp j hj2)
   rw [List.append_nil] at this; exact this
  simp only [spec_l1Put.l0]; rw [if_neg zz1l]; simp only [Option.bind_some]; rw [if_pos zz1l, if_pos zz1l, Int.toNat_natCast, List.take_length, List.drop_length]; simp only [List.length_nil, List.nil_append, List.length_append, List.length_cons, List.append_nil]; rw [if_pos zz1l, if_pos zz1l, if_pos zz1l, e]
 | succ d ih =>
  intro k i h1 hd hk hp; obtain ⟨k, rfl⟩ : ∃ m, k = m + 1 := ⟨k - 1, zz1l⟩
  have hil : i < l.length := by omega
  have ed : l.drop i = rd l i :: l.drop (i + 1) := getD_drop l i 0 hil; have es : putI l n = l.take i ++ putI (l.drop i) n := by
   rw [← putI_split _ _ _ (fun x hx => by
    obtain ⟨j, hj1, hj2, rfl⟩ := mem_take_rd hx; exact hp j hj1), List.take_append_drop]
  simp only [spec_l1Put.l0]; rw [if_pos zz1l, if_pos zz1l]; by_cases c1 : rd l i < n
  · rw [if_pos c1, wsuccL hil hb]; exact ih k (i + 1) zz1l zz1l zz1l fun j hj => by
     by_cases e : j = i
     · rw [e]; exact c1
     · exact hp j zz1l
  · rw [if_neg c1]; by_cases c2 : rd l i = n
    · rw [if_pos c2, es, ed]; show some l = some (l.take i ++ (if rd l i < n then _ else if rd l i = n then rd l i :: l.drop (i + 1) else _)); rw [if_neg c1, if_pos c2, ← ed, List.take_append_drop]
    · rw [if_neg c2]; simp only [Option.bind_some]; rw [if_pos zz1l, Int.toNat_natCast]; have h3 : (l.take i).length = i := by rw [List.length_take]; omega
      have h4 : (l.drop i).length = l.length - i := List.length_drop; simp only [List.length_nil, List.nil_append, List.length_append, List.length_cons, h3, h4]; rw [if_pos zz1l, if_pos zz1l, if_pos zz1l, es, ed]; show _ = some (l.take i ++ (if rd l i < n then _ else if rd l i = n then _ else n :: rd l i :: l.drop (i + 1))); rw [if_neg c1, if_neg c2, List.append_assoc]; rfl
theorem put_eq (l : List Int) (n : Int) (hl : l.length < 17592186044415) (k : Nat) (hk : l.length < k) : spec_l1Put.f k l n = some (putI l n) := by
 unfold spec_l1Put.f; exact put_loop l n hl l.length k 0 zz1l zz1l hk (fun j hj => by omega)
theorem has_loop (l : List Int) (n : Int) (hb : l.length ≤ 9223372036854775807) (d : Nat) : ∀ (k i : Nat), i ≤ l.length → l.length - i = d → d < k → spec_l1Has.l0 k n l l.length i = some (decide (n ∈ l.drop i)) := by
 induction d with
 | zero =>
  intro k i h1 hd hk; obtain ⟨k, rfl⟩ : ∃ m, k = m + 1 := ⟨k - 1, zz1l⟩
  simp only [spec_l1Has.l0]; rw [if_neg zz1l, List.drop_of_length_le zz1l]; simp
 | succ d ih =>
  intro k i h1 hd hk; obtain ⟨k, rfl⟩ : ∃ m, k = m + 1 := ⟨k - 1, zz1l⟩
  have hil : i < l.length := by omega
  have ed : l.drop i = rd l i :: l.drop (i + 1) := getD_drop l i 0 hil; simp only [spec_l1Has.l0]; rw [if_pos zz1l, if_pos zz1l, if_pos zz1l, ed]; by_cases c : rd l i = n
  · rw [if_pos c, decide_eq_true (by rw [c]; exact List.mem_cons_self)]
  · rw [if_neg c, wsuccL hil hb, ih k (i + 1) zz1l zz1l zz1l]; congr 1; rw [Bool.eq_iff_iff, decide_eq_true_eq, decide_eq_true_eq, List.mem_cons]; exact ⟨.inr, fun h => h.elim (fun h => absurd h.symm c) id⟩
theorem has_eq (l : List Int) (n : Int) (hb : l.length ≤ 9223372036854775807) (k : Nat) (hk : l.length < k) : spec_l1Has.f k l n = some (decide (n ∈ l)) := by
 unfold spec_l1Has.f; have := has_loop l n hb l.length k 0 zz1l zz1l hk; rw [show ((0 : Nat) : Int) = 0 from rfl, List.drop_zero] at this; exact this
theorem own_eq (l : List Int) (hl : l.length < 17592186044416) : spec_l1Own.f l = some l := by
 unfold spec_l1Own.f; simp only [Option.bind_some, List.length_nil, List.nil_append]; rw [if_pos zz1l]
theorem compact_up (s : List Int) (hs : s.Pairwise (· ≤ ·)) : ∀ m, m ≤ s.length → UpI (Go.Lib.compactUpTo s.toArray m) ∧ (∀ x, x ∈ Go.Lib.compactUpTo s.toArray m ↔ ∃ j : Nat, j < m ∧ rd s j = x) := by
 have hget : ∀ j, j < s.length → s.toArray[j]! = rd s j := fun j hj => by
  unfold rd; rw [Int.toNat_natCast, List.getD_eq_getElem?_getD, List.getElem?_eq_getElem hj, getElem!_pos s.toArray j (by simpa using hj)]; simp
 have hle : ∀ i j : Nat, i < j → j < s.length → rd s i ≤ rd s j := fun i j hij hj => by
  have := List.pairwise_iff_getElem.1 hs i j zz1l hj hij; unfold rd; rw [Int.toNat_natCast, Int.toNat_natCast, List.getD_eq_getElem?_getD, List.getD_eq_getElem?_getD, List.getElem?_eq_getElem hj, List.getElem?_eq_getElem (show i < s.length by omega)]; exact this
 intro m
 induction m with
 | zero => intro _; exact ⟨List.Pairwise.nil, fun x => ⟨(fun h => by cases h), (fun ⟨j, hj, _⟩ => by omega)⟩⟩
 | succ m ih =>
  intro hm; obtain ⟨h1, h2⟩ := ih zz1l; rw [Go.Lib.compactUpTo_succ]; cases hk : Go.Lib.keeps s.toArray m with
  | true =>
   rw [if_pos rfl, hget m zz1l]; have hlt : ∀ x, x ∈ Go.Lib.compactUpTo s.toArray m → x < rd s m := fun x hx => by
    obtain ⟨j, hj, rfl⟩ := (h2 x).1 hx; unfold Go.Lib.keeps at hk; rcases of_decide_eq_true hk with h | h
    · omega
    · rw [hget m zz1l, hget (m - 1) zz1l] at h; have a1 := hle (m - 1) m zz1l zz1l; have a2 : rd s j ≤ rd s ((m - 1 : Nat) : Int) := by
       by_cases e : j = m - 1
       · rw [e]; omega
       · exact hle j (m - 1) zz1l zz1l
      omega
   refine ⟨List.pairwise_append.2 ⟨h1, List.pairwise_singleton _ _, fun a ha b hb => by rw [List.mem_singleton.1 hb]; exact hlt a ha⟩, fun x => ?_⟩; rw [List.mem_append, h2, List.mem_singleton]; exact ⟨fun h => h.elim (fun ⟨j, hj, e⟩ => ⟨j, zz1l, e⟩) (fun e => ⟨m, zz1l, e.symm⟩), fun ⟨j, hj, e⟩ => by
    by_cases c : j = m
    · subst c; exact .inr e.symm
    · exact .inl ⟨j, zz1l, e⟩⟩
  | false =>
   rw [if_neg zz1k, List.append_nil]; refine ⟨h1, fun x => ?_⟩; rw [h2]; unfold Go.Lib.keeps at hk; have hn := of_decide_eq_false hk; have hm0 : m ≠ 0 := fun e => hn (.inl e)
   have he : s.toArray[m]! = s.toArray[m - 1]! := by
    by_cases c : s.toArray[m]! = s.toArray[m - 1]!
    · exact c
    · exact absurd (.inr c) hn
   rw [hget m zz1l, hget (m - 1) zz1l] at he; exact ⟨fun ⟨j, hj, e⟩ => ⟨j, zz1l, e⟩, fun ⟨j, hj, e⟩ => by
    by_cases c : j = m
    · subst c; exact ⟨j - 1, zz1l, by rw [← e, he]⟩
    · exact ⟨j, zz1l, e⟩⟩
theorem compact_sort (l : List Int) : Go.Lib.compactUpTo (l.mergeSort fun x y => decide (x ≤ y)).toArray (l.mergeSort fun x y => decide (x ≤ y)).length = sortI l := by
 have hs : (l.mergeSort fun x y => decide (x ≤ y)).Pairwise (· ≤ ·) := by
  have := List.pairwise_mergeSort (le := fun (x y : Int) => decide (x ≤ y)) (fun a b c h1 h2 => by simp at *; omega) (fun a b => by simp; omega) l; exact this.imp fun h => by simpa using h
 obtain ⟨h1, h2⟩ := compact_up _ hs _ (Nat.le_refl _); refine upI_of h1 fun x => (h2 x).trans ?_
 rw [← List.mem_mergeSort (le := fun (x y : Int) => decide (x ≤ y))]; constructor
 · rintro ⟨j, hj, rfl⟩; unfold rd; rw [Int.toNat_natCast, List.getD_eq_getElem?_getD, List.getElem?_eq_getElem hj]; exact List.getElem_mem hj
 · intro h; obtain ⟨j, hj, rfl⟩ := List.getElem_of_mem h; refine ⟨j, hj, ?_⟩; unfold rd; rw [Int.toNat_natCast, List.getD_eq_getElem?_getD, List.getElem?_eq_getElem hj]; rfl
end Go.Proofs.YtkocahlifffgjaaGreat.P
namespace Go.Proofs.YtkocahlifffgjaaGreat.P
open Go.RowKit Go.Proofs.YtkocahlifffgjaaGreatW.PrintWords Go.Proofs.YtkocahlifffgjaaGreatW.PrintLast Go.Proofs.YtkocahlifffgjaaGreatW.PrintMore
attribute [local go_sem] max2_int min2_int max_two min_two max_three min_three max_four min_four
set_option linter.unusedVariables false
set_option linter.unusedSimpArgs false
mutual
def spec_l5Null.l0 : Nat → List Int → Bool → Int → Int → List (List Int) → List (List Int) → List Int → List (List Int) → Option (List Int)
 | 0, _, _, _, _, _, _, _, _ => none
 | k + 1, x3, x4, aV, aN, aJ, aQ, aX, aW => if x4 = true then (spec_l5Null.l1 k x3 false aJ (aJ.length : Int) 0 aV aN aJ aQ aX aW) else (some x3)
def spec_l5Null.l1 : Nat → List Int → Bool → List (List Int) → Int → Int → Int → Int → List (List Int) → List (List Int) → List Int → List (List Int) → Option (List Int)
 | 0, _, _, _, _, _, _, _, _, _, _, _ => none
 | k + 1, x3, x4, dX, mb, k9, aV, aN, aJ, aQ, aX, aW => if k9 < mb then (if 0 ≤ k9 then (if k9 < (dX.length : Int) then (if 0 < ((rd_L1 dX k9).length : Int) then ((spec_l1Has.f k x3 (rd (rd_L1 dX k9) 0)).bind fun cq => (if cq = true then (spec_l5Null.l1 k x3 x4 dX mb (wrap64 (k9 + 1)) aV aN aJ aQ aX aW) else (if 1 < ((rd_L1 dX k9).length : Int) then ((spec_l1Has.f k x3 (rd (rd_L1 dX k9) 1)).bind fun eS => (if eS = true then (if 2 < ((rd_L1 dX k9).length : Int) then ((spec_l1Has.f k x3 (rd (rd_L1 dX k9) 2)).bind fun fc => (if fc = true then ((spec_l1Put.f k x3 (rd (rd_L1 dX k9) 0)).bind fun d4 => (spec_l5Null.l1 k d4 true dX mb (wrap64 (k9 + 1)) aV aN aJ aQ aX aW)) else (spec_l5Null.l1 k x3 x4 dX mb (wrap64 (k9 + 1)) aV aN aJ aQ aX aW))) else (none)) else (spec_l5Null.l1 k x3 x4 dX mb (wrap64 (k9 + 1)) aV aN aJ aQ aX aW))) else (none)))) else (none)) else (none)) else (none)) else (spec_l5Null.l2 k x3 x4 aQ (aQ.length : Int) 0 aV aN aJ aQ aX aW)
def spec_l5Null.l2 : Nat → List Int → Bool → List (List Int) → Int → Int → Int → Int → List (List Int) → List (List Int) → List Int → List (List Int) → Option (List Int)
 | 0, _, _, _, _, _, _, _, _, _, _, _ => none
 | k + 1, x3, x4, nF, rF, mv, aV, aN, aJ, aQ, aX, aW => if mv < rF then (if 0 ≤ mv then (if mv < (nF.length : Int) then (if 0 < ((rd_L1 nF mv).length : Int) then ((spec_l1Has.f k x3 (rd (rd_L1 nF mv) 0)).bind fun kh => (if kh = true then (spec_l5Null.l2 k x3 x4 nF rF (wrap64 (mv + 1)) aV aN aJ aQ aX aW) else (if 1 < ((rd_L1 nF mv).length : Int) then ((spec_l1Has.f k x3 (rd (rd_L1 nF mv) 1)).bind fun pq => (if pq = true then ((spec_l1Put.f k x3 (rd (rd_L1 nF mv) 0)).bind fun nG => (spec_l5Null.l2 k nG true nF rF (wrap64 (mv + 1)) aV aN aJ aQ aX aW)) else (spec_l5Null.l2 k x3 x4 nF rF (wrap64 (mv + 1)) aV aN aJ aQ aX aW))) else (none)))) else (none)) else (none)) else (none)) else (spec_l5Null.l0 k x3 x4 aV aN aJ aQ aX aW)
end
def spec_l5Null.f (k : Nat) (af : Int) (aj : Int) (ab : List (List Int)) (ae : List (List Int)) (ai : List Int) (ag : List (List Int)) : Option (List Int) := (spec_l1Own.f ai).bind fun aE => (spec_l5Null.l0 k aE true af aj ab ae ai ag)
set_option maxHeartbeats 8000000 in
set_option maxRecDepth 100000 in
theorem spec_l5Null.calls (k : Nat) (af : Int) (aj : Int) (az : Option Addr) (aq : Nat) (ab : List (List Int)) (ay : Option Addr) (av : Nat) (ae : List (List Int)) (ar : Option Addr) (au : Nat) (ai : List Int) (aw : Option Addr) (ax : Nat) (ag : List (List Int)) (r : List Int) (w : World) (bD : Kd.C (Kd.slice 3 (Kd.int .i64)) w az ab.length ab) (bE : ab.length ≤ aq) (bF : Kd.C (Kd.slice 3 (Kd.int .i64)) w ay ae.length ae) (bG : ae.length ≤ av) (bH : Kd.C (Kd.int .i64) w ar ai.length ai) (bI : ai.length ≤ au) (bJ : Kd.C (Kd.slice 3 (Kd.int .i64)) w aw ag.length ag) (bK : ag.length ≤ ax) (h : spec_l5Null.f k af aj ab ae ai ag = some r) :
 Calls Tryz.prog 67 #[.agg #[.int .i64 af, .int .i64 aj, .slice az ab.length aq, .slice ay ae.length av, .slice ar ai.length au, .slice aw ag.length ax]] w fun e w' => ∃ eV : Value, e = .returned (eV) ∧ Kd.R (Kd.int .i64) 3 w' w.heap.size (fun _ => True) eV r ∧ Below w.heap.size w w' := by
 have hu32 := Tryz.underlying32; have bq := zA bD; have bL := zA bE; clear bD bE; have bu := zA bF; have bO := zA bG; clear bF bG; have bP := zA bH; have bQ := zA bI; clear bH bI; have bR := zA bJ; have bV := zA bK; clear bJ bK; have HB := zA (Below.refl w.heap.size w); have H : ((spec_l1Own.f ai).bind fun aE => (spec_l5Null.l0 k aE true af aj ab ae ai ag)) = some r := h; clear h; replace H := Option.bind_eq_some_iff.mp H; obtain ⟨aE, me, H⟩ := H; have A2 := zA me; clear me; have H' := zA H; clear H; go_enter Tryz.func67, Tryz.ntmps67; go_wp2_with (first | ((with_reducible refine gate_dst (N := 1) rfl ?_); refine box_event ?hg (N := 1) ?hd (cs := #[.int .i64 af, .int .i64 aj, .slice az ab.length aq, .slice ay ae.length av, .slice ar ai.length au, .slice aw ag.length ax]) (t := 32) ?hr ?_; (case hd => rfl); (case hg => rfl); (case hr => first | (go_simp; done) | (go_simp; rfl)); intro ad hg w3 hbox hb; have aa := zA (hbox); have b0 := zA ((by rw [hg]; exact (zF (zz0u HB)) : w.heap.size ≤ ad)); have ac := zA ((by rw [hg]; exact (zF (zz0u HB)) : w.heap.size ≤ ad)); replace HB := zA (zG (zz0u HB) hb); clear hb hbox hg; obtain ⟨ee, ef, eg, eh, ei, ej⟩ := zk6 aa.out; have mw := zL aa.out 5) | ((with_reducible refine gate_callee (f := 66) rfl ?_); refine goesL_ (some 11) rfl rfl Tryz.func66 zz1h rfl #[.slice ar ai.length au] rfl zz0h ?_; (with_reducible refine (spec_l1Own.calls _ _ ai aE _ ?al ?am A2.out).mono ?_); (case al => exact (zz0x bP HB)); (case am => exact bQ.out); rintro e w5 ⟨e0, rfl, cd, hb⟩; refine ⟨_, rfl, ?_⟩; have dD := zA (Kd.R_lower cd (zF (zz0l HB ac))); replace aa := zA (zMp aa.out hb); replace HB := zA (zG (zz0l HB ac) hb); (try clear hb); (try clear hb2); (try clear hk); (try clear hi); (try clear cd))); go_loopg [3, 4] k (fun kq v3 v4 w' => ∃ (em : List Int) (b8 : Bool), v4 = .bool b8 ∧ Aside0 (spec_l5Null.l0 kq em b8 af aj ab ae ai ag = some r) ∧ Aside0 (kq ≤ k) ∧ Aside0 (Kd.R (Kd.int .i64) 3 w' w.heap.size (fun _ => True) v3 em) ∧ Aside0 (w'.heap[ad]? = some (.cells #[.int .i64 af, .int .i64 aj, (.slice az ab.length aq), (.slice ay ae.length av), (.slice ar ai.length au), (.slice aw ag.length ax)] 32 (0, 0))) ∧ Aside0 (Below w.heap.size w w'))
 case atStart => exact ⟨(aE), (true), zz12, H', ⟨Nat.le_refl _⟩, ⟨zz0y dD⟩, ⟨zz0w aa⟩, ⟨zz0l HB ac⟩⟩
 case round =>
  clear H'; (try clear p2); (try clear ee); (try clear ef); (try clear eg); (try clear eh); (try clear ei); (try clear ej); obtain ⟨em, b8, rfl, HA, bw, aA, aa, HB⟩ := hrel; cases gk with
  | zero => exact absurd HA.out (by simp [spec_l5Null.l0])
  | succ k1 =>
   have H := HA.out; clear HA; simp only [spec_l5Null.l0] at H; by_cases c6 : b8 = true
   · subst c6; rw [if_pos rfl] at H; have H' := zA H; clear H; obtain ⟨mx, my, mz, mA, mB, mC⟩ := zk6 aa.out; go_wp2; go_loopg [3, 4, 16] k1 (fun kq v3 v4 v16 w' => ∃ (eo : List Int) (cR : Bool) (bh : Int), v4 = .bool cR ∧ v16 = .int .i64 bh ∧ Aside0 (spec_l5Null.l1 kq eo cR ab (ab.length : Int) bh af aj ab ae ai ag = some r) ∧ Aside0 (kq ≤ k1) ∧ Aside0 (Kd.R (Kd.int .i64) 3 w' w.heap.size (fun _ => True) v3 eo) ∧ Aside0 (w'.heap[ad]? = some (.cells #[.int .i64 af, .int .i64 aj, (.slice az ab.length aq), (.slice ay ae.length av), (.slice ar ai.length au), (.slice aw ag.length ax)] 32 (0, 0))) ∧ Aside0 (Below w.heap.size w w'))
     case atStart => exact ⟨(em), (false), (0), zz12, zz12, H', ⟨Nat.le_refl _⟩, ⟨zz0y aA⟩, ⟨zz0w aa⟩, ⟨zz0l HB ac⟩⟩
     case round =>
      clear H'; (try clear p2); (try clear c6); (try clear ee); (try clear ef); (try clear eg); (try clear eh); (try clear ei); (try clear ej); (try clear mx); (try clear my); (try clear mz); (try clear mA); (try clear mB); (try clear mC); (try clear p2); obtain ⟨eo, cR, bh, rfl, rfl, HA, cN, aA, aa, HB⟩ := hrel; cases gk with
      | zero => exact absurd HA.out (by simp [spec_l5Null.l1])
      | succ k2 =>
       have H := HA.out; clear HA; simp only [spec_l5Null.l1] at H; by_cases c8 : bh < (ab.length : Int)
       · rw [if_pos c8] at H; have d3 := decide_eq_true c8; clear c8; replace H := zIn H; obtain ⟨c9, H⟩ := H; have eW : decide (0 ≤ bh) = true := decide_eq_true c9; clear c9; replace H := zIn H; obtain ⟨fG, H⟩ := H; have gp : decide (bh < (ab.length : Int)) = true := decide_eq_true fG; clear fG; replace H := zIn H; obtain ⟨fy, H⟩ := H; have hA : decide (0 < ((rd_L1 ab bh).length : Int)) = true := decide_eq_true fy; have on : decide (0 < (rd_L1 ab bh).length) = true := decide_eq_true zz1l; clear fy; replace H := Option.bind_eq_some_iff.mp H; obtain ⟨cq, qM, H⟩ := H; have rG := zA qM; clear qM; by_cases fz : cq = true
         · subst fz; rw [if_pos rfl] at H; have H' := zA H; clear H; have cb : 0 ≤ (bh : Int) := of_decide_eq_true zz1g; have cc : bh < (ab.length : Int) := of_decide_eq_true zz1g; obtain ⟨dT, eC, eD, dH, aD, bs, bt⟩ := at_L1 bq.out bh cb cc; cases dH; replace aD := (HB.out.cell (World.block_lt_of_cell? w _ aD)).trans aD; have bX := zA bt; have cF := zA bs; clear bt bs; replace cb := eq_true cb; replace cc := eq_true cc; have f1 : 0 ≤ (0 : Int) := zz1l
           have f2 : 0 < ((rd_L1 ab bh).length : Int) := of_decide_eq_true zz1g; obtain ⟨gr, ki, cf⟩ := Kd.at_int bX.out 0 f1 f2; cases ki; have mD : (0 < (rd_L1 ab bh).length) = True := eq_true zz1l; (try rw [zi0] at cf); (try rw [Addr.add_zero'] at cf); replace cf := (HB.out.cell (World.block_lt_of_cell? w _ cf)).trans cf; replace f1 := eq_true f1; replace f2 := eq_true f2; obtain ⟨ip, iq, kj⟩ := Kd.R_slice aA.out; subst kj; go_wp2_with (first | ((with_reducible refine gate_callee (f := 65) rfl ?_); refine goesL_ (some 24) rfl rfl Tryz.func65 zz1h rfl #[.slice ip eo.length iq, .int .i64 (rd (rd_L1 ab bh) 0)] rfl zz0h ?_; (with_reducible refine (spec_l1Has.calls k2 _ _ eo (rd (rd_L1 ab bh) 0) true _ ?al ?am rG.out).mono ?_); (case al => repeat (first | exact (Kd.R_reads' aA.out).2.2 | refine zP ?_ _ | refine zQ ?_ _ | refine zR ?_)); (case am => exact (Kd.R_reads' aA.out).2.1); rintro e w' ⟨rfl, ⟨nd, rfl⟩⟩; refine ⟨_, rfl, ?_⟩))
           go_roundg k2
           case measure => have := bw.out; have := cN.out; omega
           case rel => exact ⟨(eo), (cR), (wrap64 (bh + 1)), zz12, zz12, H', ⟨zz18 bw cN⟩, ⟨zz0y aA⟩, ⟨zz0w aa⟩, ⟨zz0l HB ac⟩⟩
         · replace fz := Bool.eq_false_iff.mpr fz; subst fz; rw [if_neg zFt] at H; replace H := zIn H; obtain ⟨hD, H⟩ := H; have gT : decide (1 < ((rd_L1 ab bh).length : Int)) = true := decide_eq_true hD; have c15b1 : decide (1 < (rd_L1 ab bh).length) = true := decide_eq_true zz1l; clear hD; replace H := Option.bind_eq_some_iff.mp H; obtain ⟨eS, jH, H⟩ := H; have nH := zA jH; clear jH; by_cases gh : eS = true
           · subst gh; rw [if_pos rfl] at H; replace H := zIn H; obtain ⟨gK, H⟩ := H; have hF : decide (2 < ((rd_L1 ab bh).length : Int)) = true := decide_eq_true gK; have c18b1 : decide (2 < (rd_L1 ab bh).length) = true := decide_eq_true zz1l; clear gK; replace H := Option.bind_eq_some_iff.mp H; obtain ⟨fc, mE, H⟩ := H; have qN := zA mE; clear mE; by_cases g3 : fc = true
             · subst g3; rw [if_pos rfl] at H; replace H := Option.bind_eq_some_iff.mp H; obtain ⟨d4, mF, H⟩ := H; have qo := zA mF; clear mF; have H' := zA H; clear H; have cb : 0 ≤ (bh : Int) := of_decide_eq_true zz1g; have cc : bh < (ab.length : Int) := of_decide_eq_true zz1g; obtain ⟨dT, eC, eD, dH, aD, bs, bt⟩ := at_L1 bq.out bh cb cc; cases dH; replace aD := (HB.out.cell (World.block_lt_of_cell? w _ aD)).trans aD; have bX := zA bt; have cF := zA bs; clear bt bs; replace cb := eq_true cb; replace cc := eq_true cc; have f1 : 0 ≤ (0 : Int) := zz1l
               have f2 : 0 < ((rd_L1 ab bh).length : Int) := of_decide_eq_true zz1g; obtain ⟨gr, ki, cf⟩ := Kd.at_int bX.out 0 f1 f2; cases ki; have mD : (0 < (rd_L1 ab bh).length) = True := eq_true zz1l; (try rw [zi0] at cf); (try rw [Addr.add_zero'] at cf); replace cf := (HB.out.cell (World.block_lt_of_cell? w _ cf)).trans cf; replace f1 := eq_true f1; replace f2 := eq_true f2; obtain ⟨nI, nJ, eo22⟩ := Kd.R_slice aA.out; subst eo22; go_wp2_with (first | ((with_reducible refine gate_callee (f := 65) rfl ?_); refine goesL_ (some 24) rfl rfl Tryz.func65 zz1h rfl #[.slice nI eo.length nJ, .int .i64 (rd (rd_L1 ab bh) 0)] rfl zz0h ?_; (with_reducible refine (spec_l1Has.calls k2 _ _ eo (rd (rd_L1 ab bh) 0) false _ ?al ?am rG.out).mono ?_); (case al => repeat (first | exact (Kd.R_reads' aA.out).2.2 | refine zP ?_ _ | refine zQ ?_ _ | refine zR ?_)); (case am => exact (Kd.R_reads' aA.out).2.1); rintro e w' ⟨rfl, ⟨nd, rfl⟩⟩; refine ⟨_, rfl, ?_⟩; have fs : 0 ≤ (1 : Int) := zz1l; have ft : 1 < ((rd_L1 ab bh).length : Int) := of_decide_eq_true zz1g; obtain ⟨gU, kk, cg⟩ := Kd.at_int bX.out 1 fs ft; obtain rfl : gr = gU := (by injection kk); (try simp only [show (1 : Int).toNat = 1 from rfl, Nat.reduceMul, Nat.reduceEqDiff, Go.Addr.add, ↓reduceIte] at cg); have oo : (1 < (rd_L1 ab bh).length) = True := eq_true zz1l; (try rw [zi1] at cg); replace cg := (HB.out.cell (World.block_lt_of_cell? w _ cg)).trans cg; replace fs := eq_true fs; replace ft := eq_true ft) | (go_at_call 65; (with_reducible refine (spec_l1Has.calls k2 _ _ eo (rd (rd_L1 ab bh) 1) true _ ?al ?am nH.out).mono ?_); (case al => repeat (first | exact (Kd.R_reads' aA.out).2.2 | refine zP ?_ _ | refine zQ ?_ _ | refine zR ?_)); (case am => exact (Kd.R_reads' aA.out).2.1); rintro e w' ⟨rfl, ⟨nd, rfl⟩⟩; have jI : 0 ≤ (2 : Int) := zz1l; have jJ : 2 < ((rd_L1 ab bh).length : Int) := of_decide_eq_true zz1g; obtain ⟨mG, pr, du⟩ := Kd.at_int bX.out 2 jI jJ; obtain rfl : gr = mG := (by injection pr); (try simp only [show (2 : Int).toNat = 2 from rfl, Nat.reduceMul, Nat.reduceEqDiff, Go.Addr.add, ↓reduceIte] at du); have qi110 : (2 < (rd_L1 ab bh).length) = True := eq_true zz1l; (try rw [zi2] at du); replace du := (HB.out.cell (World.block_lt_of_cell? w _ du)).trans du; replace jI := eq_true jI; replace jJ := eq_true jJ) | (go_at_call 65; (with_reducible refine (spec_l1Has.calls k2 _ _ eo (rd (rd_L1 ab bh) 2) true _ ?al ?am qN.out).mono ?_); (case al => repeat (first | exact (Kd.R_reads' aA.out).2.2 | refine zP ?_ _ | refine zQ ?_ _ | refine zR ?_)); (case am => exact (Kd.R_reads' aA.out).2.1); rintro e w' ⟨rfl, ⟨nd, rfl⟩⟩; have ir : 0 ≤ (0 : Int) := zz1l; have it : 0 < ((rd_L1 ab bh).length : Int) := of_decide_eq_true zz1g; obtain ⟨hG, ps, dv⟩ := Kd.at_int bX.out 0 ir it; obtain rfl : gr = hG := (by injection ps); have qi112 : (0 < (rd_L1 ab bh).length) = True := eq_true zz1l; (try rw [zi0] at dv); (try rw [Addr.add_zero'] at dv); replace dv := (HB.out.cell (World.block_lt_of_cell? w _ dv)).trans dv; replace ir := eq_true ir; replace it := eq_true it) | ((with_reducible refine gate_callee (f := 45) rfl ?_); refine goesL_ (some 44) rfl rfl Tryz.func45 zz1h rfl #[.slice nI eo.length nJ, .int .i64 (rd (rd_L1 ab bh) 0)] rfl zz0h ?_; (with_reducible refine (spec_l1Put.calls k2 (fun k_ => some k_ = (.slice nI eo.length nJ : Value).ownBlock) (.slice nI eo.length nJ) eo (rd (rd_L1 ab bh) 0) d4 w _ ?al ?am qo.out).mono ?_); (case al => repeat (first | (with_reducible first | exact HB.out | apply zB | apply zC | apply zD | refine zE ?_ ac.out) | exact HB.out)); (case am => exact Kd.R_tight rfl aA.out); rintro e qn ⟨d5, rfl, cd, hb, hkp⟩; refine ⟨_, rfl, ?_⟩; replace aa := zA (blk_kept (zz0w aa) hkp (fun hs_ => (fun e_ => (Kd.R_ne aA.out aa.out zz1k) e_) hs_)); have dj := zA (Kd.R_mono (ok' := fun k_ => True) cd (fun k_ hk_ => trivial)); replace HB := zA (hb); clear aA; (try clear hb); (try clear hkp); (try clear cd)))
               go_roundg k2
               case measure => have := bw.out; have := cN.out; omega
               case rel => exact ⟨(d4), (true), (wrap64 (bh + 1)), zz12, zz12, H', ⟨zz18 bw cN⟩, ⟨zz0y dj⟩, ⟨zz0w aa⟩, ⟨zz0l HB ac⟩⟩
             · replace g3 := Bool.eq_false_iff.mpr g3; subst g3; rw [if_neg zFt] at H; have H' := zA H; clear H; have cb : 0 ≤ (bh : Int) := of_decide_eq_true zz1g; have cc : bh < (ab.length : Int) := of_decide_eq_true zz1g; obtain ⟨dT, eC, eD, dH, aD, bs, bt⟩ := at_L1 bq.out bh cb cc; cases dH; replace aD := (HB.out.cell (World.block_lt_of_cell? w _ aD)).trans aD; have bX := zA bt; have cF := zA bs; clear bt bs; replace cb := eq_true cb; replace cc := eq_true cc; have f1 : 0 ≤ (0 : Int) := zz1l
               have f2 : 0 < ((rd_L1 ab bh).length : Int) := of_decide_eq_true zz1g; obtain ⟨gr, ki, cf⟩ := Kd.at_int bX.out 0 f1 f2; cases ki; have mD : (0 < (rd_L1 ab bh).length) = True := eq_true zz1l; (try rw [zi0] at cf); (try rw [Addr.add_zero'] at cf); replace cf := (HB.out.cell (World.block_lt_of_cell? w _ cf)).trans cf; replace f1 := eq_true f1; replace f2 := eq_true f2; obtain ⟨qO, qP, pt⟩ := Kd.R_slice aA.out; subst pt; go_wp2_with (first | ((with_reducible refine gate_callee (f := 65) rfl ?_); refine goesL_ (some 24) rfl rfl Tryz.func65 zz1h rfl #[.slice qO eo.length qP, .int .i64 (rd (rd_L1 ab bh) 0)] rfl zz0h ?_; (with_reducible refine (spec_l1Has.calls k2 _ _ eo (rd (rd_L1 ab bh) 0) false _ ?al ?am rG.out).mono ?_); (case al => repeat (first | exact (Kd.R_reads' aA.out).2.2 | refine zP ?_ _ | refine zQ ?_ _ | refine zR ?_)); (case am => exact (Kd.R_reads' aA.out).2.1); rintro e w' ⟨rfl, ⟨nd, rfl⟩⟩; refine ⟨_, rfl, ?_⟩; have fs : 0 ≤ (1 : Int) := zz1l; have ft : 1 < ((rd_L1 ab bh).length : Int) := of_decide_eq_true zz1g; obtain ⟨gU, kk, cg⟩ := Kd.at_int bX.out 1 fs ft; obtain rfl : gr = gU := (by injection kk); (try simp only [show (1 : Int).toNat = 1 from rfl, Nat.reduceMul, Nat.reduceEqDiff, Go.Addr.add, ↓reduceIte] at cg); have oo : (1 < (rd_L1 ab bh).length) = True := eq_true zz1l; (try rw [zi1] at cg); replace cg := (HB.out.cell (World.block_lt_of_cell? w _ cg)).trans cg; replace fs := eq_true fs; replace ft := eq_true ft) | (go_at_call 65; (with_reducible refine (spec_l1Has.calls k2 _ _ eo (rd (rd_L1 ab bh) 1) true _ ?al ?am nH.out).mono ?_); (case al => repeat (first | exact (Kd.R_reads' aA.out).2.2 | refine zP ?_ _ | refine zQ ?_ _ | refine zR ?_)); (case am => exact (Kd.R_reads' aA.out).2.1); rintro e w' ⟨rfl, ⟨nd, rfl⟩⟩; have jI : 0 ≤ (2 : Int) := zz1l; have jJ : 2 < ((rd_L1 ab bh).length : Int) := of_decide_eq_true zz1g; obtain ⟨mG, pr, du⟩ := Kd.at_int bX.out 2 jI jJ; obtain rfl : gr = mG := (by injection pr); (try simp only [show (2 : Int).toNat = 2 from rfl, Nat.reduceMul, Nat.reduceEqDiff, Go.Addr.add, ↓reduceIte] at du); have qi110 : (2 < (rd_L1 ab bh).length) = True := eq_true zz1l; (try rw [zi2] at du); replace du := (HB.out.cell (World.block_lt_of_cell? w _ du)).trans du; replace jI := eq_true jI; replace jJ := eq_true jJ) | (go_at_call 65; (with_reducible refine (spec_l1Has.calls k2 _ _ eo (rd (rd_L1 ab bh) 2) false _ ?al ?am qN.out).mono ?_); (case al => repeat (first | exact (Kd.R_reads' aA.out).2.2 | refine zP ?_ _ | refine zQ ?_ _ | refine zR ?_)); (case am => exact (Kd.R_reads' aA.out).2.1); rintro e w' ⟨rfl, ⟨nd, rfl⟩⟩))
               go_roundg k2
               case measure => have := bw.out; have := cN.out; omega
               case rel => exact ⟨(eo), (cR), (wrap64 (bh + 1)), zz12, zz12, H', ⟨zz18 bw cN⟩, ⟨zz0y aA⟩, ⟨zz0w aa⟩, ⟨zz0l HB ac⟩⟩
           · replace gh := Bool.eq_false_iff.mpr gh; subst gh; rw [if_neg zFt] at H; have H' := zA H; clear H; have cb : 0 ≤ (bh : Int) := of_decide_eq_true zz1g; have cc : bh < (ab.length : Int) := of_decide_eq_true zz1g; obtain ⟨dT, eC, eD, dH, aD, bs, bt⟩ := at_L1 bq.out bh cb cc; cases dH; replace aD := (HB.out.cell (World.block_lt_of_cell? w _ aD)).trans aD; have bX := zA bt; have cF := zA bs; clear bt bs; replace cb := eq_true cb; replace cc := eq_true cc; have f1 : 0 ≤ (0 : Int) := zz1l
             have f2 : 0 < ((rd_L1 ab bh).length : Int) := of_decide_eq_true zz1g; obtain ⟨gr, ki, cf⟩ := Kd.at_int bX.out 0 f1 f2; cases ki; have mD : (0 < (rd_L1 ab bh).length) = True := eq_true zz1l; (try rw [zi0] at cf); (try rw [Addr.add_zero'] at cf); replace cf := (HB.out.cell (World.block_lt_of_cell? w _ cf)).trans cf; replace f1 := eq_true f1; replace f2 := eq_true f2; obtain ⟨Ao25, co25, eo25⟩ := Kd.R_slice aA.out; subst eo25; go_wp2_with (first | ((with_reducible refine gate_callee (f := 65) rfl ?_); refine goesL_ (some 24) rfl rfl Tryz.func65 zz1h rfl #[.slice Ao25 eo.length co25, .int .i64 (rd (rd_L1 ab bh) 0)] rfl zz0h ?_; (with_reducible refine (spec_l1Has.calls k2 _ _ eo (rd (rd_L1 ab bh) 0) false _ ?al ?am rG.out).mono ?_); (case al => repeat (first | exact (Kd.R_reads' aA.out).2.2 | refine zP ?_ _ | refine zQ ?_ _ | refine zR ?_)); (case am => exact (Kd.R_reads' aA.out).2.1); rintro e w' ⟨rfl, ⟨nd, rfl⟩⟩; refine ⟨_, rfl, ?_⟩; have fs : 0 ≤ (1 : Int) := zz1l; have ft : 1 < ((rd_L1 ab bh).length : Int) := of_decide_eq_true zz1g; obtain ⟨gU, kk, cg⟩ := Kd.at_int bX.out 1 fs ft; obtain rfl : gr = gU := (by injection kk); (try simp only [show (1 : Int).toNat = 1 from rfl, Nat.reduceMul, Nat.reduceEqDiff, Go.Addr.add, ↓reduceIte] at cg); have oo : (1 < (rd_L1 ab bh).length) = True := eq_true zz1l; (try rw [zi1] at cg); replace cg := (HB.out.cell (World.block_lt_of_cell? w _ cg)).trans cg; replace fs := eq_true fs; replace ft := eq_true ft) | (go_at_call 65; (with_reducible refine (spec_l1Has.calls k2 _ _ eo (rd (rd_L1 ab bh) 1) false _ ?al ?am nH.out).mono ?_); (case al => repeat (first | exact (Kd.R_reads' aA.out).2.2 | refine zP ?_ _ | refine zQ ?_ _ | refine zR ?_)); (case am => exact (Kd.R_reads' aA.out).2.1); rintro e w' ⟨rfl, ⟨nd, rfl⟩⟩))
             go_roundg k2
             case measure => have := bw.out; have := cN.out; omega
             case rel => exact ⟨(eo), (cR), (wrap64 (bh + 1)), zz12, zz12, H', ⟨zz18 bw cN⟩, ⟨zz0y aA⟩, ⟨zz0w aa⟩, ⟨zz0l HB ac⟩⟩
       · rw [if_neg c8] at H; have d3 := decide_eq_false c8; clear c8; have H' := zA H; clear H; obtain ⟨i5, i6, la, lb, lc, ld⟩ := zk6 aa.out; go_wp2; go_loopg [3, 4, 49] k2 (fun kq v3 v4 v49 w' => ∃ (fu : List Int) (lM : Bool) (b7 : Int), v4 = .bool lM ∧ v49 = .int .i64 b7 ∧ Aside0 (spec_l5Null.l2 kq fu lM ae (ae.length : Int) b7 af aj ab ae ai ag = some r) ∧ Aside0 (kq ≤ k2) ∧ Aside0 (Kd.R (Kd.int .i64) 3 w' w.heap.size (fun _ => True) v3 fu) ∧ Aside0 (w'.heap[ad]? = some (.cells #[.int .i64 af, .int .i64 aj, (.slice az ab.length aq), (.slice ay ae.length av), (.slice ar ai.length au), (.slice aw ag.length ax)] 32 (0, 0))) ∧ Aside0 (Below w.heap.size w w'))
         case atStart => exact ⟨(eo), (cR), (0), zz12, zz12, H', ⟨Nat.le_refl _⟩, ⟨zz0y aA⟩, ⟨zz0w aa⟩, ⟨zz0l HB ac⟩⟩
         case round =>
          clear H'; (try clear c1); (try clear p1); (try clear q1); (try clear nK); (try clear rT); (try clear c2); (try clear p2); (try clear c4); (try clear c6); (try clear p6); (try clear c8); (try clear d3); (try clear c9); (try clear eW); (try clear fG); (try clear gp); (try clear jp); (try clear jq); (try clear i7); (try clear qi10); (try clear fy); (try clear hA); (try clear on); (try clear qp); (try clear qq); (try clear mH); (try clear pu); (try clear fz); (try clear hD); (try clear gT); (try clear c15b1); (try clear gh); (try clear gK); (try clear hF); (try clear c18b1); (try clear g3); (try clear i5); (try clear i6); (try clear la); (try clear lb); (try clear lc); (try clear ld); (try clear ee); (try clear ef); (try clear eg); (try clear eh); (try clear ei); (try clear ej); (try clear mx); (try clear my); (try clear mz); (try clear mA); (try clear mB); (try clear mC); (try clear aD); (try clear cf); (try clear cg); (try clear du); (try clear dv); (try clear cb); (try clear f1); (try clear fs); (try clear jI); (try clear ir); (try clear p2); (try clear cc); (try clear f2); (try clear ft); (try clear jJ); (try clear it); obtain ⟨fu, lM, b7, rfl, rfl, HA, op, aA, aa, HB⟩ := hrel; cases gk with
          | zero => exact absurd HA.out (by simp [spec_l5Null.l2])
          | succ k3 =>
           have H := HA.out; clear HA; simp only [spec_l5Null.l2] at H; by_cases gJ : b7 < (ae.length : Int)
           · rw [if_pos gJ] at H; have hI := decide_eq_true gJ; clear gJ; replace H := zIn H; obtain ⟨mc, H⟩ := H; have jD : decide (0 ≤ b7) = true := decide_eq_true mc; clear mc; replace H := zIn H; obtain ⟨pv, H⟩ := H; have c29b0 : decide (b7 < (ae.length : Int)) = true := decide_eq_true pv; clear pv; replace H := zIn H; obtain ⟨jE, H⟩ := H; have oq : decide (0 < ((rd_L1 ae b7).length : Int)) = true := decide_eq_true jE; have os : decide (0 < (rd_L1 ae b7).length) = true := decide_eq_true zz1l; clear jE; replace H := Option.bind_eq_some_iff.mp H; obtain ⟨kh, qQ, H⟩ := H; have rU := zA qQ; clear qQ; by_cases lN : kh = true
             · subst lN; rw [if_pos rfl] at H; have H' := zA H; clear H; have ep : 0 ≤ (b7 : Int) := of_decide_eq_true zz1g; have eq : b7 < (ae.length : Int) := of_decide_eq_true zz1g; obtain ⟨fH, mI, mJ, hJ, bj, eL, eM⟩ := at_L1 bu.out b7 ep eq; cases hJ; replace bj := (HB.out.cell (World.block_lt_of_cell? w _ bj)).trans bj; have eN := zA eM; have le := zA eL; clear eM eL; replace ep := eq_true ep; replace eq := eq_true eq; have er : 0 ≤ (0 : Int) := zz1l
               have es : 0 < ((rd_L1 ae b7).length : Int) := of_decide_eq_true zz1g; obtain ⟨fI, hL, ba⟩ := Kd.at_int eN.out 0 er es; cases hL; have jK : (0 < (rd_L1 ae b7).length) = True := eq_true zz1l; (try rw [zi0] at ba); (try rw [Addr.add_zero'] at ba); replace ba := (HB.out.cell (World.block_lt_of_cell? w _ ba)).trans ba; replace er := eq_true er; replace es := eq_true es; obtain ⟨kl, km, lO⟩ := Kd.R_slice aA.out; subst lO; go_wp2_with (first | ((with_reducible refine gate_callee (f := 65) rfl ?_); refine goesL_ (some 57) rfl rfl Tryz.func65 zz1h rfl #[.slice kl fu.length km, .int .i64 (rd (rd_L1 ae b7) 0)] rfl zz0h ?_; (with_reducible refine (spec_l1Has.calls k3 _ _ fu (rd (rd_L1 ae b7) 0) true _ ?al ?am rU.out).mono ?_); (case al => repeat (first | exact (Kd.R_reads' aA.out).2.2 | refine zP ?_ _ | refine zQ ?_ _ | refine zR ?_)); (case am => exact (Kd.R_reads' aA.out).2.1); rintro e w' ⟨rfl, ⟨nd, rfl⟩⟩; refine ⟨_, rfl, ?_⟩))
               go_roundg k3
               case measure => have := bw.out; have := cN.out; have := op.out; omega
               case rel => exact ⟨(fu), (lM), (wrap64 (b7 + 1)), zz12, zz12, H', ⟨zz15 bw cN op⟩, ⟨zz0y aA⟩, ⟨zz0w aa⟩, ⟨zz0l HB ac⟩⟩
             · replace lN := Bool.eq_false_iff.mpr lN; subst lN; rw [if_neg zFt] at H; replace H := zIn H; obtain ⟨qR, H⟩ := H; have ot : decide (1 < ((rd_L1 ae b7).length : Int)) = true := decide_eq_true qR; have c34b1 : decide (1 < (rd_L1 ae b7).length) = true := decide_eq_true zz1l; clear qR; replace H := Option.bind_eq_some_iff.mp H; obtain ⟨pq, qS, H⟩ := H; have sp := zA qS; clear qS; by_cases nx : pq = true
               · subst nx; rw [if_pos rfl] at H; replace H := Option.bind_eq_some_iff.mp H; obtain ⟨nG, qT, H⟩ := H; have rE := zA qT; clear qT; have H' := zA H; clear H; have ep : 0 ≤ (b7 : Int) := of_decide_eq_true zz1g; have eq : b7 < (ae.length : Int) := of_decide_eq_true zz1g; obtain ⟨fH, mI, mJ, hJ, bj, eL, eM⟩ := at_L1 bu.out b7 ep eq; cases hJ; replace bj := (HB.out.cell (World.block_lt_of_cell? w _ bj)).trans bj; have eN := zA eM; have le := zA eL; clear eM eL; replace ep := eq_true ep; replace eq := eq_true eq; have er : 0 ≤ (0 : Int) := zz1l
                 have es : 0 < ((rd_L1 ae b7).length : Int) := of_decide_eq_true zz1g; obtain ⟨fI, hL, ba⟩ := Kd.at_int eN.out 0 er es; cases hL; have jK : (0 < (rd_L1 ae b7).length) = True := eq_true zz1l; (try rw [zi0] at ba); (try rw [Addr.add_zero'] at ba); replace ba := (HB.out.cell (World.block_lt_of_cell? w _ ba)).trans ba; replace er := eq_true er; replace es := eq_true es; obtain ⟨nL, nM, eo38⟩ := Kd.R_slice aA.out; subst eo38; go_wp2_with (first | ((with_reducible refine gate_callee (f := 65) rfl ?_); refine goesL_ (some 57) rfl rfl Tryz.func65 zz1h rfl #[.slice nL fu.length nM, .int .i64 (rd (rd_L1 ae b7) 0)] rfl zz0h ?_; (with_reducible refine (spec_l1Has.calls k3 _ _ fu (rd (rd_L1 ae b7) 0) false _ ?al ?am rU.out).mono ?_); (case al => repeat (first | exact (Kd.R_reads' aA.out).2.2 | refine zP ?_ _ | refine zQ ?_ _ | refine zR ?_)); (case am => exact (Kd.R_reads' aA.out).2.1); rintro e w' ⟨rfl, ⟨nd, rfl⟩⟩; refine ⟨_, rfl, ?_⟩; have e1 : 0 ≤ (1 : Int) := zz1l; have e3 : 1 < ((rd_L1 ae b7).length : Int) := of_decide_eq_true zz1g; obtain ⟨gV, i8, bz⟩ := Kd.at_int eN.out 1 e1 e3; obtain rfl : fI = gV := (by injection i8); (try simp only [show (1 : Int).toNat = 1 from rfl, Nat.reduceMul, Nat.reduceEqDiff, Go.Addr.add, ↓reduceIte] at bz); have lf : (1 < (rd_L1 ae b7).length) = True := eq_true zz1l; (try rw [zi1] at bz); replace bz := (HB.out.cell (World.block_lt_of_cell? w _ bz)).trans bz; replace e1 := eq_true e1; replace e3 := eq_true e3) | (go_at_call 65; (with_reducible refine (spec_l1Has.calls k3 _ _ fu (rd (rd_L1 ae b7) 1) true _ ?al ?am sp.out).mono ?_); (case al => repeat (first | exact (Kd.R_reads' aA.out).2.2 | refine zP ?_ _ | refine zQ ?_ _ | refine zR ?_)); (case am => exact (Kd.R_reads' aA.out).2.1); rintro e w' ⟨rfl, ⟨nd, rfl⟩⟩; have jL : 0 ≤ (0 : Int) := zz1l; have jM : 0 < ((rd_L1 ae b7).length : Int) := of_decide_eq_true zz1g; obtain ⟨ou, pw, fd⟩ := Kd.at_int eN.out 0 jL jM; obtain rfl : fI = ou := (by injection pw); have qi121 : (0 < (rd_L1 ae b7).length) = True := eq_true zz1l; (try rw [zi0] at fd); (try rw [Addr.add_zero'] at fd); replace fd := (HB.out.cell (World.block_lt_of_cell? w _ fd)).trans fd; replace jL := eq_true jL; replace jM := eq_true jM) | ((with_reducible refine gate_callee (f := 45) rfl ?_); refine goesL_ (some 70) rfl rfl Tryz.func45 zz1h rfl #[.slice nL fu.length nM, .int .i64 (rd (rd_L1 ae b7) 0)] rfl zz0h ?_; (with_reducible refine (spec_l1Put.calls k3 (fun k_ => some k_ = (.slice nL fu.length nM : Value).ownBlock) (.slice nL fu.length nM) fu (rd (rd_L1 ae b7) 0) nG w _ ?al ?am rE.out).mono ?_); (case al => repeat (first | (with_reducible first | exact HB.out | apply zB | apply zC | apply zD | refine zE ?_ ac.out) | exact HB.out)); (case am => exact Kd.R_tight rfl aA.out); rintro e sq ⟨v123, rfl, cd, hb, hkp⟩; refine ⟨_, rfl, ?_⟩; replace aa := zA (blk_kept (zz0w aa) hkp (fun hs_ => (fun e_ => (Kd.R_ne aA.out aa.out zz1k) e_) hs_)); have HO124 := zA (Kd.R_mono (ok' := fun k_ => True) cd (fun k_ hk_ => trivial)); replace HB := zA (hb); clear aA; (try clear hb); (try clear hkp); (try clear cd)))
                 go_roundg k3
                 case measure => have := bw.out; have := cN.out; have := op.out; omega
                 case rel => exact ⟨(nG), (true), (wrap64 (b7 + 1)), zz12, zz12, H', ⟨zz15 bw cN op⟩, ⟨zz0y HO124⟩, ⟨zz0w aa⟩, ⟨zz0l HB ac⟩⟩
               · replace nx := Bool.eq_false_iff.mpr nx; subst nx; rw [if_neg zFt] at H; have H' := zA H; clear H; have ep : 0 ≤ (b7 : Int) := of_decide_eq_true zz1g; have eq : b7 < (ae.length : Int) := of_decide_eq_true zz1g; obtain ⟨fH, mI, mJ, hJ, bj, eL, eM⟩ := at_L1 bu.out b7 ep eq; cases hJ; replace bj := (HB.out.cell (World.block_lt_of_cell? w _ bj)).trans bj; have eN := zA eM; have le := zA eL; clear eM eL; replace ep := eq_true ep; replace eq := eq_true eq; have er : 0 ≤ (0 : Int) := zz1l
                 have es : 0 < ((rd_L1 ae b7).length : Int) := of_decide_eq_true zz1g; obtain ⟨fI, hL, ba⟩ := Kd.at_int eN.out 0 er es; cases hL; have jK : (0 < (rd_L1 ae b7).length) = True := eq_true zz1l; (try rw [zi0] at ba); (try rw [Addr.add_zero'] at ba); replace ba := (HB.out.cell (World.block_lt_of_cell? w _ ba)).trans ba; replace er := eq_true er; replace es := eq_true es; obtain ⟨Ao40, co40, eo40⟩ := Kd.R_slice aA.out; subst eo40; go_wp2_with (first | ((with_reducible refine gate_callee (f := 65) rfl ?_); refine goesL_ (some 57) rfl rfl Tryz.func65 zz1h rfl #[.slice Ao40 fu.length co40, .int .i64 (rd (rd_L1 ae b7) 0)] rfl zz0h ?_; (with_reducible refine (spec_l1Has.calls k3 _ _ fu (rd (rd_L1 ae b7) 0) false _ ?al ?am rU.out).mono ?_); (case al => repeat (first | exact (Kd.R_reads' aA.out).2.2 | refine zP ?_ _ | refine zQ ?_ _ | refine zR ?_)); (case am => exact (Kd.R_reads' aA.out).2.1); rintro e w' ⟨rfl, ⟨nd, rfl⟩⟩; refine ⟨_, rfl, ?_⟩; have e1 : 0 ≤ (1 : Int) := zz1l; have e3 : 1 < ((rd_L1 ae b7).length : Int) := of_decide_eq_true zz1g; obtain ⟨gV, i8, bz⟩ := Kd.at_int eN.out 1 e1 e3; obtain rfl : fI = gV := (by injection i8); (try simp only [show (1 : Int).toNat = 1 from rfl, Nat.reduceMul, Nat.reduceEqDiff, Go.Addr.add, ↓reduceIte] at bz); have lf : (1 < (rd_L1 ae b7).length) = True := eq_true zz1l; (try rw [zi1] at bz); replace bz := (HB.out.cell (World.block_lt_of_cell? w _ bz)).trans bz; replace e1 := eq_true e1; replace e3 := eq_true e3) | (go_at_call 65; (with_reducible refine (spec_l1Has.calls k3 _ _ fu (rd (rd_L1 ae b7) 1) false _ ?al ?am sp.out).mono ?_); (case al => repeat (first | exact (Kd.R_reads' aA.out).2.2 | refine zP ?_ _ | refine zQ ?_ _ | refine zR ?_)); (case am => exact (Kd.R_reads' aA.out).2.1); rintro e w' ⟨rfl, ⟨nd, rfl⟩⟩))
                 go_roundg k3
                 case measure => have := bw.out; have := cN.out; have := op.out; omega
                 case rel => exact ⟨(fu), (lM), (wrap64 (b7 + 1)), zz12, zz12, H', ⟨zz15 bw cN op⟩, ⟨zz0y aA⟩, ⟨zz0w aa⟩, ⟨zz0l HB ac⟩⟩
           · rw [if_neg gJ] at H; have hI := decide_eq_false gJ; clear gJ; have H' := zA H; clear H; go_wp2
             go_roundg k3
             case measure => have := bw.out; have := cN.out; have := op.out; omega
             case rel => exact ⟨(fu), (lM), zz12, H', ⟨zz15 bw cN op⟩, ⟨zz0y aA⟩, ⟨zz0w aa⟩, ⟨zz0l HB ac⟩⟩
   · replace c6 := Bool.eq_false_iff.mpr c6; subst c6; rw [if_neg zFt] at H; obtain rfl := Option.some.inj H; go_wp2; go_ret; exact ⟨_, zz0v, zz0y aA, zz0l HB ac⟩
end Go.Proofs.YtkocahlifffgjaaGreat.P
namespace Go.Proofs.YtkocahlifffgjaaGreat.P
open Go.RowKit Go.Proofs.YtkocahlifffgjaaGreatW.PrintWords
set_option linter.unusedVariables false
set_option linter.unusedSimpArgs false
theorem putI_len_new (l : List Int) (n : Int) (h : n ∉ l) : (putI l n).length = l.length + 1 := by
 induction l with
 | nil => rfl
 | cons a l ih =>
  have h1 : n ≠ a := fun e => h (e ▸ List.mem_cons_self)
  have h2 : n ∉ l := fun e => h (List.mem_cons_of_mem _ e)
  simp only [putI]; by_cases c : a < n
  · rw [if_pos c, List.length_cons, ih h2]; rfl
  · rw [if_neg c, if_neg (fun e => h1 e.symm)]; rfl
structure NlI (n : Nat) (es : List Int) (rows : List (List Int)) (out : List Int) : Prop where
 up : UpI out
 lo : ∀ x, x ∈ es → x ∈ out
 hi : ∀ x, x ∈ out → (0 ≤ x ∧ x < n) ∧ NulR es rows x
def clR (out : List Int) (l : List Int) : Prop := rd l 0 ∈ out ∨ ∃ j : Nat, 1 ≤ j ∧ j < l.length ∧ rd l j ∉ out
theorem NlI.len {n : Nat} {es : List Int} {rows : List (List Int)} {out : List Int} (h : NlI n es rows out) : out.length ≤ n := by
 have := upI_len out 0 n h.up (fun x hx => (h.hi x hx).1) zz1l; omega
theorem NlI.put {n : Nat} {es : List Int} {rows : List (List Int)} {out : List Int} (h : NlI n es rows out) {l : List Int} (hl : l ∈ rows) (h0 : 0 ≤ rd l 0 ∧ rd l 0 < n) (hj : ∀ j : Nat, 1 ≤ j → j < l.length → rd l j ∈ out) : NlI n es rows (putI out (rd l 0)) :=
 ⟨upI_put _ _ h.up, fun x hx => (mem_putI _ _ _).2 (.inr (h.lo x hx)), fun x hx => by
  rcases (mem_putI _ _ _).1 hx with e | e
  · rw [e]; exact ⟨h0, .step hl (fun j a b => (h.hi _ (hj j a b)).1.1) (fun j a b => (h.hi _ (hj j a b)).2)⟩
  · exact h.hi x e⟩
theorem NlI.fin {n : Nat} {es : List Int} {rows : List (List Int)} {out : List Int} (h : NlI n es rows out) (hr : rowsIn n rows) (he : ∀ x, x ∈ es → 0 ≤ x ∧ x < n) (hc : ∀ l, l ∈ rows → clR out l) : out = setB (nulV n es rows) := by
 refine setB_of h.up fun x => ?_
 rw [nulV_len hr he]; have key : ∀ x : Int, 0 ≤ x → x < n → ((nulV n es rows).getD x.toNat false = true ↔ NulR es rows x) := fun z h0 h1 => by
  have := nulV_at hr he (i := z.toNat) zz1l; rwa [show ((z.toNat : Nat) : Int) = z by omega] at this
 constructor
 · intro hx; obtain ⟨h1, h2⟩ := h.hi x hx; exact ⟨h1, (key x h1.1 h1.2).2 h2⟩
 · rintro ⟨h1, h2⟩; exact ((key x h1.1 h1.2).1 h2).least (T := fun x => x ∈ out) h.lo (fun l hl hj => (hc l hl).elim id (fun ⟨j, a, b, hn⟩ => absurd (hj j a b).2 hn))
structure PsI (n : Nat) (es : List Int) (rows : List (List Int)) (m0 : Nat) (done : List Int → Prop) (out : List Int) (more : Bool) : Prop where
 ni : NlI n es rows out
 le : m0 ≤ out.length
 lt : more = true → m0 < out.length
 cl : more = false → ∀ l, done l → clR out l
theorem PsI.skip {n : Nat} {es : List Int} {rows : List (List Int)} {m0 : Nat} {done done' : List Int → Prop} {out : List Int} {more : Bool} (h : PsI n es rows m0 done out more) {l : List Int} (hd : ∀ x, done' x → done x ∨ x = l) (hc : clR out l) : PsI n es rows m0 done' out more :=
 ⟨h.ni, h.le, h.lt, fun hm x hx => (hd x hx).elim (h.cl hm x) (fun e => by rw [e]; exact hc)⟩
theorem PsI.put {n : Nat} {es : List Int} {rows : List (List Int)} {m0 : Nat} {done done' : List Int → Prop} {out : List Int} {more : Bool} (h : PsI n es rows m0 done out more) {l : List Int} (hl : l ∈ rows) (h0 : 0 ≤ rd l 0 ∧ rd l 0 < n) (hn : rd l 0 ∉ out) (hj : ∀ j : Nat, 1 ≤ j → j < l.length → rd l j ∈ out) : PsI n es rows m0 done' (putI out (rd l 0)) true := by
 have hlen := putI_len_new out (rd l 0) hn; have := h.le; exact ⟨h.ni.put hl h0 hj, zz1l, fun _ => by omega, fun e => by cases e⟩
def fstOf (rs : List (List Int)) (i : Nat) (l : List Int) : Prop := ∃ j : Nat, j < i ∧ l = rs.getD j []
theorem fstOf_succ {rs : List (List Int)} {i : Nat} {l : List Int} (h : fstOf rs (i + 1) l) : fstOf rs i l ∨ l = rs.getD i [] := by
 obtain ⟨j, hj, e⟩ := h; by_cases c : j = i
 · subst c; exact .inr e
 · exact .inl ⟨j, zz1l, e⟩
theorem fstOf_all {rs : List (List Int)} {l : List Int} (h : l ∈ rs) {i : Nat} (hi : rs.length ≤ i) : fstOf rs i l := by
 obtain ⟨j, hj, rfl⟩ := List.getElem_of_mem h; exact ⟨j, zz1l, by rw [List.getD_eq_getElem?_getD, List.getElem?_eq_getElem hj]; rfl⟩
section
variable {n : Nat} {toks : Int} {ps os : List (List Int)} {es : List Int} {fs : List (List Int)} (ok : OkB (n : Int) toks ps os es)
include ok
theorem null_l2 (ho : os.length ≤ 9223372036854775807) (X : List Int) (m0 : Nat) (h0 : ∀ out more, PsI n es (ps ++ os) m0 (fun l => l ∈ ps ∨ l ∈ os) out more → Ev (fun k => spec_l5Null.l0 k out more (n : Int) toks ps os es fs) X) (d : Nat) : ∀ (i : Nat) (out : List Int) (more : Bool), i ≤ os.length → os.length - i = d → PsI n es (ps ++ os) m0 (fun l => l ∈ ps ∨ fstOf os i l) out more →
 Ev (fun k => spec_l5Null.l2 k out more os os.length i (n : Int) toks ps os es fs) X := by
 have hn40 := ok.n
 induction d with
 | zero =>
  intro i out more h1 hd hp; obtain ⟨K, h⟩ := h0 out more ⟨hp.ni, hp.le, hp.lt, fun hm l hl => hp.cl hm l (hl.imp id fun h => fstOf_all h zz1l)⟩; dsimp only at h; refine ⟨K + 1, fun k hk => ?_⟩; dsimp only; obtain ⟨k, rfl⟩ : ∃ m, k = m + 1 := ⟨k - 1, zz1l⟩
  simp only [spec_l5Null.l2]; rw [if_neg zz1l]; exact h k zz1l
 | succ d ih =>
  intro i out more h1 hd hp; have hil : i < os.length := by omega
  have hlen := hp.ni.len; have hmem : rd_L1 os i ∈ os := by unfold rd_L1; rw [Int.toNat_natCast, List.getD_eq_getElem?_getD, List.getElem?_eq_getElem hil]; exact List.getElem_mem hil
  have ew : wrap64 ((i : Int) + 1) = ((i + 1 : Nat) : Int) := wsuccL hil ho; have eg : os.getD i [] = rd_L1 os i := rfl; obtain ⟨y2, yin⟩ := ok.o _ hmem; have skip : clR out (rd_L1 os i) → Ev (fun k => spec_l5Null.l2 k out more os os.length (wrap64 ((i : Int) + 1)) (n : Int) toks ps os es fs) X := fun hc => by
   rw [ew]; exact ih (i + 1) out more zz1l zz1l (hp.skip (l := rd_L1 os i) (fun x hx => hx.elim (fun h => .inl (.inl h)) (fun h => (fstOf_succ h).imp .inr (fun e => by rw [e, eg]))) hc)
  have put : rd (rd_L1 os i) 0 ∉ out → rd (rd_L1 os i) 1 ∈ out → Ev (fun k => spec_l5Null.l2 k (putI out (rd (rd_L1 os i) 0)) true os os.length (wrap64 ((i : Int) + 1)) (n : Int) toks ps os es fs) X := fun hn h1 => by
   rw [ew]; exact ih (i + 1) _ true zz1l zz1l (hp.put (List.mem_append_right _ hmem) yin.1 hn (fun j a b => by rw [show j = 1 by omega]; exact h1))
  obtain ⟨y, hy⟩ : ∃ y, y = rd_L1 os i := ⟨_, rfl⟩
  rw [← hy] at y2 skip put; by_cases c0 : rd y 0 ∈ out
  · obtain ⟨K, h⟩ := skip (.inl c0); dsimp only at h; refine ⟨K + 100, fun k hk => ?_⟩; dsimp only; obtain ⟨k, rfl⟩ : ∃ m, k = m + 1 := ⟨k - 1, zz1l⟩
    simp only [spec_l5Null.l2]; rw [if_pos zz1l, if_pos zz1l, if_pos zz1l, ← hy, if_pos zz1l, has_eq out _ zz1l k zz1l, decide_eq_true c0]; exact h k zz1l
  · by_cases c1 : rd y 1 ∈ out
    · obtain ⟨K, h⟩ := put c0 c1; dsimp only at h; refine ⟨K + 100, fun k hk => ?_⟩; dsimp only; obtain ⟨k, rfl⟩ : ∃ m, k = m + 1 := ⟨k - 1, zz1l⟩
      simp only [spec_l5Null.l2]; rw [if_pos zz1l, if_pos zz1l, if_pos zz1l, ← hy, if_pos zz1l, has_eq out _ zz1l k zz1l, has_eq out _ zz1l k zz1l, decide_eq_false c0, decide_eq_true c1, put_eq out _ zz1l k zz1l]; simp only [Option.bind_some]; rw [if_neg zz1k, if_pos zz1l, if_pos trivial]; exact h k zz1l
    · obtain ⟨K, h⟩ := skip (.inr ⟨1, zz1l, zz1l, c1⟩); dsimp only at h; refine ⟨K + 100, fun k hk => ?_⟩; dsimp only; obtain ⟨k, rfl⟩ : ∃ m, k = m + 1 := ⟨k - 1, zz1l⟩
      simp only [spec_l5Null.l2]; rw [if_pos zz1l, if_pos zz1l, if_pos zz1l, ← hy, if_pos zz1l, has_eq out _ zz1l k zz1l, has_eq out _ zz1l k zz1l, decide_eq_false c0, decide_eq_false c1]; simp only [Option.bind_some]; rw [if_neg zz1k, if_pos zz1l, if_neg zz1k]; exact h k zz1l
theorem null_l1 (hpl : ps.length ≤ 9223372036854775807) (X : List Int) (m0 : Nat) (h0 : ∀ out more, PsI n es (ps ++ os) m0 (fun l => l ∈ ps ∨ fstOf os 0 l) out more → Ev (fun k => spec_l5Null.l2 k out more os os.length 0 (n : Int) toks ps os es fs) X) (d : Nat) : ∀ (i : Nat) (out : List Int) (more : Bool), i ≤ ps.length → ps.length - i = d → PsI n es (ps ++ os) m0 (fun l => fstOf ps i l) out more →
 Ev (fun k => spec_l5Null.l1 k out more ps ps.length i (n : Int) toks ps os es fs) X := by
 have hn40 := ok.n
 induction d with
 | zero =>
  intro i out more h1 hd hp; obtain ⟨K, h⟩ := h0 out more ⟨hp.ni, hp.le, hp.lt, fun hm l hl => hp.cl hm l (hl.elim (fun h => fstOf_all h zz1l) (fun ⟨j, hj, _⟩ => by omega))⟩; dsimp only at h; refine ⟨K + 1, fun k hk => ?_⟩; dsimp only; obtain ⟨k, rfl⟩ : ∃ m, k = m + 1 := ⟨k - 1, zz1l⟩
  simp only [spec_l5Null.l1]; rw [if_neg zz1l]; exact h k zz1l
 | succ d ih =>
  intro i out more h1 hd hp; have hil : i < ps.length := by omega
  have hlen := hp.ni.len; have hmem : rd_L1 ps i ∈ ps := by unfold rd_L1; rw [Int.toNat_natCast, List.getD_eq_getElem?_getD, List.getElem?_eq_getElem hil]; exact List.getElem_mem hil
  have ew : wrap64 ((i : Int) + 1) = ((i + 1 : Nat) : Int) := wsuccL hil hpl; have eg : ps.getD i [] = rd_L1 ps i := rfl; obtain ⟨y2, yin⟩ := ok.p _ hmem; have skip : clR out (rd_L1 ps i) → Ev (fun k => spec_l5Null.l1 k out more ps ps.length (wrap64 ((i : Int) + 1)) (n : Int) toks ps os es fs) X := fun hc => by
   rw [ew]; exact ih (i + 1) out more zz1l zz1l (hp.skip (l := rd_L1 ps i) (fun x hx => (fstOf_succ hx).imp id (fun e => by rw [e, eg])) hc)
  have put : rd (rd_L1 ps i) 0 ∉ out → rd (rd_L1 ps i) 1 ∈ out → rd (rd_L1 ps i) 2 ∈ out → Ev (fun k => spec_l5Null.l1 k (putI out (rd (rd_L1 ps i) 0)) true ps ps.length (wrap64 ((i : Int) + 1)) (n : Int) toks ps os es fs) X := fun hn h1 h2 => by
   rw [ew]; exact ih (i + 1) _ true zz1l zz1l (hp.put (List.mem_append_left _ hmem) yin.1 hn (fun j a b => by
    have : j = 1 ∨ j = 2 := by omega
    rcases this with e | e
    · rw [e]; exact h1
    · rw [e]; exact h2))
  obtain ⟨y, hy⟩ : ∃ y, y = rd_L1 ps i := ⟨_, rfl⟩
  rw [← hy] at y2 skip put; by_cases c0 : rd y 0 ∈ out
  · obtain ⟨K, h⟩ := skip (.inl c0); dsimp only at h; refine ⟨K + 100, fun k hk => ?_⟩; dsimp only; obtain ⟨k, rfl⟩ : ∃ m, k = m + 1 := ⟨k - 1, zz1l⟩
    simp only [spec_l5Null.l1]; rw [if_pos zz1l, if_pos zz1l, if_pos zz1l, ← hy, if_pos zz1l, has_eq out _ zz1l k zz1l, decide_eq_true c0]; exact h k zz1l
  · by_cases c1 : rd y 1 ∈ out
    · by_cases c2 : rd y 2 ∈ out
      · obtain ⟨K, h⟩ := put c0 c1 c2; dsimp only at h; refine ⟨K + 100, fun k hk => ?_⟩; dsimp only; obtain ⟨k, rfl⟩ : ∃ m, k = m + 1 := ⟨k - 1, zz1l⟩
        simp only [spec_l5Null.l1]; rw [if_pos zz1l, if_pos zz1l, if_pos zz1l, ← hy, if_pos zz1l, has_eq out _ zz1l k zz1l, has_eq out _ zz1l k zz1l, has_eq out _ zz1l k zz1l, decide_eq_false c0, decide_eq_true c1, decide_eq_true c2, put_eq out _ zz1l k zz1l]; simp only [Option.bind_some]; rw [if_neg zz1k, if_pos zz1l, if_pos trivial, if_pos zz1l, if_pos trivial]; exact h k zz1l
      · obtain ⟨K, h⟩ := skip (.inr ⟨2, zz1l, zz1l, c2⟩); dsimp only at h; refine ⟨K + 100, fun k hk => ?_⟩; dsimp only; obtain ⟨k, rfl⟩ : ∃ m, k = m + 1 := ⟨k - 1, zz1l⟩
        simp only [spec_l5Null.l1]; rw [if_pos zz1l, if_pos zz1l, if_pos zz1l, ← hy, if_pos zz1l, has_eq out _ zz1l k zz1l, has_eq out _ zz1l k zz1l, has_eq out _ zz1l k zz1l, decide_eq_false c0, decide_eq_true c1, decide_eq_false c2]; simp only [Option.bind_some]; rw [if_neg zz1k, if_pos zz1l, if_pos trivial, if_pos zz1l, if_neg zz1k]; exact h k zz1l
    · obtain ⟨K, h⟩ := skip (.inr ⟨1, zz1l, zz1l, c1⟩); dsimp only at h; refine ⟨K + 100, fun k hk => ?_⟩; dsimp only; obtain ⟨k, rfl⟩ : ∃ m, k = m + 1 := ⟨k - 1, zz1l⟩
      simp only [spec_l5Null.l1]; rw [if_pos zz1l, if_pos zz1l, if_pos zz1l, ← hy, if_pos zz1l, has_eq out _ zz1l k zz1l, has_eq out _ zz1l k zz1l, decide_eq_false c0, decide_eq_false c1]; simp only [Option.bind_some]; rw [if_neg zz1k, if_pos zz1l, if_neg zz1k]; exact h k zz1l
theorem null_l0 (hpl : ps.length ≤ 9223372036854775807) (hol : os.length ≤ 9223372036854775807) (d : Nat) : ∀ out : List Int, NlI n es (ps ++ os) out → n - out.length ≤ d →
 Ev (fun k => spec_l5Null.l0 k out true (n : Int) toks ps os es fs) (setB (nulV n es (ps ++ os))) := by
 induction d with
 | zero =>
  intro out h hd; refine (Ev.step (f := fun k => spec_l5Null.l1 k out false ps ps.length 0 (n : Int) toks ps os es fs) (fun k => by simp only [spec_l5Null.l0]; rw [if_pos trivial]) ?_); refine null_l1 ok hpl _ out.length (fun out1 m1 h1 => null_l2 ok hol _ out.length (fun out2 m2 h2 => ?_) os.length 0 out1 m1 (Nat.zero_le _) rfl h1) ps.length 0 out false (Nat.zero_le _) rfl ⟨h, Nat.le_refl _, (fun e => by cases e), fun _ l ⟨j, hj, _⟩ => by omega⟩; cases m2 with
  | true => have a1 := h2.lt rfl; have a2 := h2.ni.len; omega
  | false =>
   refine ⟨1, fun k hk => ?_⟩; dsimp only; obtain ⟨k, rfl⟩ : ∃ m, k = m + 1 := ⟨k - 1, zz1l⟩
   simp only [spec_l5Null.l0]; rw [if_neg zz1k, h2.ni.fin (okB_rows ok) ok.e (fun l hl => h2.cl rfl l (List.mem_append.1 hl))]
 | succ d ih =>
  intro out h hd; refine (Ev.step (f := fun k => spec_l5Null.l1 k out false ps ps.length 0 (n : Int) toks ps os es fs) (fun k => by simp only [spec_l5Null.l0]; rw [if_pos trivial]) ?_); refine null_l1 ok hpl _ out.length (fun out1 m1 h1 => null_l2 ok hol _ out.length (fun out2 m2 h2 => ?_) os.length 0 out1 m1 (Nat.zero_le _) rfl h1) ps.length 0 out false (Nat.zero_le _) rfl ⟨h, Nat.le_refl _, (fun e => by cases e), fun _ l ⟨j, hj, _⟩ => by omega⟩; cases m2 with
  | true => exact ih out2 h2.ni (by have a1 := h2.lt rfl; omega)
  | false =>
   refine ⟨1, fun k hk => ?_⟩; dsimp only; obtain ⟨k, rfl⟩ : ∃ m, k = m + 1 := ⟨k - 1, zz1l⟩
   simp only [spec_l5Null.l0]; rw [if_neg zz1k, h2.ni.fin (okB_rows ok) ok.e (fun l hl => h2.cl rfl l (List.mem_append.1 hl))]
theorem l5Null_ev (hpl : ps.length ≤ 9223372036854775807) (hol : os.length ≤ 9223372036854775807) : Ev (fun k => spec_l5Null.f k (n : Int) toks ps os es fs) (setB (nulV n es (ps ++ os))) := by
 have h40 := ok.n; have hl : es.length ≤ n := by
  have := upI_len es 0 n ok.eu (fun x hx => ok.e x hx) zz1l; omega
 obtain ⟨K, h⟩ := null_l0 (fs := fs) ok hpl hol n es ⟨ok.eu, fun _ h => h, fun x hx => ⟨ok.e x hx, .base hx⟩⟩ zz1l; dsimp only at h; refine ⟨K, fun k hk => ?_⟩; dsimp only; unfold spec_l5Null.f; rw [own_eq es zz1l]; exact h k hk
end
def keepA (xs : List (List Int)) (j : Nat) : Bool := decide (j = 0 ∨ xs.getD j [] ≠ xs.getD (j - 1) [])
def dedupZ (xs : List (List Int)) (m : Nat) : List (List Int × Nat) := (xs.zipIdx.take m).filter fun z => keepA xs z.2
def dedupA (xs : List (List Int)) : List (List Int) := (dedupZ xs xs.length).map Prod.fst
theorem zipAt {xs : List (List Int)} {j : Nat} (hj : j < xs.length) : xs.zipIdx[j]? = some (xs.getD j [], j) := by
 rw [List.getElem?_zipIdx, List.getElem?_eq_getElem hj, Nat.zero_add, List.getD_eq_getElem?_getD, List.getElem?_eq_getElem hj]; rfl
theorem dedupZ_succ {xs : List (List Int)} {j : Nat} (hj : j < xs.length) : dedupZ xs (j + 1) = dedupZ xs j ++ if keepA xs j = true then [(xs.getD j [], j)] else [] := by
 unfold dedupZ; rw [List.take_add_one, zipAt hj, List.filter_append]; congr 1; cases h : keepA xs j with
 | true => simp [h]
 | false => simp [h]
def CmpI (xs : List (List Int)) (zs : List (List Int × Nat)) (i j : Nat) : Prop :=
 zs.length = xs.length ∧ i + 1 ≤ j ∧ j ≤ xs.length ∧ zs.take i = dedupZ xs j ∧ zs.drop (j - 1) = xs.zipIdx.drop (j - 1)
theorem cmpI_start {xs : List (List Int)} {k : Nat} (h1 : 1 ≤ k) (hk : k < xs.length) (h0 : ∀ j, 1 ≤ j → j < k → xs.getD j [] ≠ xs.getD (j - 1) []) (he : xs.getD k [] = xs.getD (k - 1) []) : CmpI xs xs.zipIdx k (k + 1) := by
 have hl : xs.zipIdx.length = xs.length := List.length_zipIdx; refine ⟨hl, Nat.le_refl _, hk, ?_, rfl⟩; have e : keepA xs k = false := by unfold keepA; exact decide_eq_false (fun h => h.elim zz1l (fun h => h he))
 rw [dedupZ_succ hk, e, if_neg zz1k, List.append_nil]; unfold dedupZ; rw [List.filter_eq_self.2]; intro z hz; obtain ⟨j, hj, rfl⟩ := List.getElem_of_mem hz; rw [List.length_take] at hj; have hz2 : ((xs.zipIdx.take k)[j]'(by rw [List.length_take]; exact hj)).2 = j := by simp
 rw [hz2]; unfold keepA; refine decide_eq_true ?_; by_cases c : j = 0
 · exact .inl c
 · exact .inr (h0 j zz1l zz1l)
theorem cmpI_at {xs : List (List Int)} {zs : List (List Int × Nat)} {i j : Nat} (h : CmpI xs zs i j) (m : Nat) (hm : j - 1 ≤ m) (hl : m < xs.length) : zs[m]? = some (xs.getD m [], m) := by
 obtain ⟨h1, h2, h3, h4, h5⟩ := h; have := congrArg (fun l => l[m - (j - 1)]?) h5; simp only [List.getElem?_drop, show j - 1 + (m - (j - 1)) = m by omega] at this; rw [this, zipAt hl]
theorem cmpI_skip {xs : List (List Int)} {zs : List (List Int × Nat)} {i j : Nat} (h : CmpI xs zs i j) (hj : j < xs.length) (he : xs.getD j [] = xs.getD (j - 1) []) : CmpI xs zs i (j + 1) := by
 obtain ⟨h1, h2, h3, h4, h5⟩ := h; refine ⟨h1, zz1l, hj, ?_, ?_⟩
 · have e : keepA xs j = false := by unfold keepA; exact decide_eq_false (fun h => h.elim zz1l (fun h => h he))
   rw [dedupZ_succ hj, e, if_neg zz1k, List.append_nil, h4]
 · have : j + 1 - 1 = j - 1 + 1 := by omega
   rw [this, ← List.drop_drop, h5, List.drop_drop]
theorem cmpI_keep {xs : List (List Int)} {zs : List (List Int × Nat)} {i j : Nat} (h : CmpI xs zs i j) (hj : j < xs.length) (he : xs.getD j [] ≠ xs.getD (j - 1) []) : CmpI xs (zs.set i (xs.getD j [], j)) (i + 1) (j + 1) := by
 obtain ⟨h1, h2, h3, h4, h5⟩ := h; refine ⟨by rw [List.length_set]; exact h1, zz1l, hj, ?_, ?_⟩
 · have e : keepA xs j = true := by unfold keepA; exact decide_eq_true (.inr he)
   rw [dedupZ_succ hj, e, if_pos rfl, ← h4, List.take_add_one, List.take_set, List.set_eq_of_length_le zz19, List.getElem?_set_self zz1l]; rfl
 · have : j + 1 - 1 = j - 1 + 1 := by omega
   rw [this, List.drop_set_of_lt zz1l, ← List.drop_drop, h5, List.drop_drop]
theorem zipIdx_fst_take {xs : List (List Int)} (m : Nat) : ((xs.zipIdx.take m).map Prod.snd).Nodup := by
 refine List.Nodup.sublist (List.Sublist.map _ (List.take_sublist _ _)) ?_; rw [List.zipIdx_map_snd]; exact List.nodup_range'
theorem dedupZ_nodup (xs : List (List Int)) (m : Nat) : ((dedupZ xs m).map Prod.snd).Nodup := List.Nodup.sublist (List.Sublist.map _ List.filter_sublist) (zipIdx_fst_take m)
theorem cmpI_end {xs : List (List Int)} {zs : List (List Int × Nat)} {i j : Nat} (h : CmpI xs zs i j) (hj : ¬ j < xs.length) : (zs.take i).map Prod.fst = dedupA xs ∧ ((zs.take i).map Prod.snd).Nodup := by
 obtain ⟨h1, h2, h3, h4, h5⟩ := h; have e : j = xs.length := by omega
 subst e; rw [h4]; exact ⟨rfl, dedupZ_nodup xs _⟩
theorem dedupA_self {xs : List (List Int)} (h0 : ∀ j, 1 ≤ j → j < xs.length → xs.getD j [] ≠ xs.getD (j - 1) []) : dedupA xs = xs := by
 unfold dedupA dedupZ; rw [List.filter_eq_self.2, List.take_of_length_le (by rw [List.length_zipIdx]; exact Nat.le_refl _), List.zipIdx_map_fst]; intro z hz; obtain ⟨j, hj, rfl⟩ := List.getElem_of_mem hz; rw [List.length_take, List.length_zipIdx] at hj; have hz2 : ((xs.zipIdx.take xs.length)[j]'(by rw [List.length_take, List.length_zipIdx]; exact hj)).2 = j := by simp
 rw [hz2]; unfold keepA; refine decide_eq_true ?_; by_cases c : j = 0
 · exact .inl c
 · exact .inr (h0 j zz1l zz1l)
theorem mem_dedupZ {xs : List (List Int)} {m j : Nat} (hj : j < m) (hl : j < xs.length) (hk : keepA xs j = true) : xs.getD j [] ∈ (dedupZ xs m).map Prod.fst := by
 refine List.mem_map.2 ⟨(xs.getD j [], j), ?_, rfl⟩; unfold dedupZ; refine List.mem_filter.2 ⟨?_, hk⟩; have h1 : (xs.zipIdx.take m)[j]? = some (xs.getD j [], j) := by rw [List.getElem?_take_of_lt hj, zipAt hl]
 exact List.mem_of_getElem? h1
theorem mem_dedupA (xs : List (List Int)) (x : List Int) : x ∈ dedupA xs ↔ x ∈ xs := by
 constructor
 · intro h; obtain ⟨z, hz, rfl⟩ := List.mem_map.1 h; have h1 := List.mem_of_mem_take (List.mem_filter.1 hz).1; have h2 : z.1 ∈ xs.zipIdx.map Prod.fst := List.mem_map.2 ⟨z, h1, rfl⟩; rwa [List.zipIdx_map_fst] at h2
 · intro h; obtain ⟨j, hj, rfl⟩ := List.getElem_of_mem h; have key : ∀ j, j < xs.length → xs.getD j [] ∈ dedupA xs := by
    intro j
    induction j with
    | zero => intro hj; exact mem_dedupZ hj hj (by unfold keepA; exact decide_eq_true (.inl rfl))
    | succ j ih =>
     intro hj; by_cases c : xs.getD (j + 1) [] = xs.getD j []
     · rw [c]; exact ih zz1l
     · exact mem_dedupZ hj hj (by unfold keepA; exact decide_eq_true (.inr c))
   have := key j hj; rwa [List.getD_eq_getElem?_getD, List.getElem?_eq_getElem hj] at this
theorem dedupA_up {xs : List (List Int)} (hs : xs.Pairwise (fun a b => ¬ cmpL b a < 0)) : UpL (dedupA xs) := by
 have hg : ∀ j, (hj : j < xs.length) → xs.getD j [] = xs[j] := fun j hj => by rw [List.getD_eq_getElem?_getD, List.getElem?_eq_getElem hj]; rfl
 have hle : ∀ i j, i ≤ j → j < xs.length → ¬ cmpL (xs.getD j []) (xs.getD i []) < 0 := fun i j hij hj => by
  by_cases e : i = j
  · subst e; rw [cmpL_self]; omega
  · rw [hg j hj, hg i zz1l]; exact List.pairwise_iff_getElem.1 hs i j zz1l hj zz1l
 have hlt : ∀ i j, i < j → j < xs.length → keepA xs j = true → cmpL (xs.getD i []) (xs.getD j []) < 0 := fun i j hij hj hk => by
  unfold keepA at hk; have hk := of_decide_eq_true hk; have hne : xs.getD j [] ≠ xs.getD (j - 1) [] := hk.elim (fun h => by omega) id; have h1 : cmpL (xs.getD (j - 1) []) (xs.getD j []) < 0 := cmpL_flip (hle (j - 1) j zz1l hj) hne; by_cases e : xs.getD i [] = xs.getD (j - 1) []
  · rw [e]; exact h1
  · exact cmpL_trans _ _ _ (cmpL_flip (hle i (j - 1) zz1l zz1l) (fun h => e h.symm)) h1
 have hp : xs.zipIdx.Pairwise (fun z z' => keepA xs z'.2 = true → cmpL z.1 z'.1 < 0) := by
  rw [List.pairwise_iff_getElem]; intro i j hi hj hij; have hj' : j < xs.length := by simpa using hj
  have := hlt i j hij hj'; rw [hg j hj', hg i zz1l] at this; simpa using this
 unfold UpL dedupA dedupZ; rw [List.pairwise_map]; refine ((hp.sublist (List.take_sublist _ _)).filter _).imp_of_mem ?_; intro a b _ hb h; exact h (List.mem_filter.1 hb).2
theorem dedup_sort {xs ys : List (List Int)} (hp : xs.Perm ys) (hs : xs.Pairwise (fun a b => ¬ cmpL b a < 0)) : dedupA xs = sortL ys := upL_of (dedupA_up hs) fun x => (mem_dedupA xs x).trans hp.mem_iff
theorem R_head {α : Type} {d : Kd α} {W : World} {base : Nat} {ok : Nat → Prop} {e g n cap : Nat} {xs : List α} (h : d.R e W base ok (.slice (some ⟨g, 0, none⟩) n cap) xs) (m : Nat) (hm : m ≤ xs.length) :
 d.R e W base ok (.slice (some ⟨g, 0, none⟩) m cap) (xs.take m) := by
 obtain ⟨hok, inner, ⟨hlen, hrow⟩, hr1, hr2⟩ := h; rcases hrow with ⟨hv, _⟩ | ⟨g', cap', cur, hv, hbg, hh, hnc, hcm, hcs, ht⟩
 · cases hv
 injection hv with ha0 hn0 hc0; injection ha0 with ha0; injection ha0 with hg0; subst hg0; subst hc0; have hl : (xs.take m).length = m := by rw [List.length_take]; omega
 have hms : m * d.sz ≤ xs.length * d.sz := Nat.mul_le_mul_right _ hm; refine ⟨hok, inner.take (m * d.sz), ⟨by rw [List.length_take, hl, hlen]; exact Nat.min_eq_left hms, .inr ⟨g, cap, cur, by rw [hl], hbg, hh, by rw [hl]; omega, hcm, hcs, by rw [hl, ← ht, List.take_take, Nat.min_eq_left hms]⟩⟩, by rw [List.length_take, hl, hr1]; exact Nat.min_eq_left hms, fun q p hq => ?_⟩; obtain ⟨hq1, _⟩ := List.getElem?_eq_some_iff.1 hq; rw [hl] at hq1; rw [List.getElem?_take, if_pos hq1] at hq; have hx := hr2 q p hq; have hqs : q * d.sz + d.sz ≤ m * d.sz := by rw [← Nat.succ_mul]; exact Nat.mul_le_mul_right _ hq1
 rw [List.drop_take, List.take_take, Nat.min_eq_left zz1l]; exact hx
theorem R_tail {α : Type} {d : Kd α} {W : World} {base : Nat} {ok : Nat → Prop} {e g n cap : Nat} {xs : List α} (h : d.R e W base ok (.slice (some ⟨g, 0, none⟩) n cap) xs) (o : Nat) (ho : xs.length * d.sz ≤ o) (vs : List Value) (hvs : o + vs.length ≤ cap * d.sz) :
 d.R e (W.setCells g o vs) base ok (.slice (some ⟨g, 0, none⟩) n cap) xs := by
 obtain ⟨hok, inner, ⟨hlen, hrow⟩, hr1, hr2⟩ := h; rcases hrow with ⟨hv, _⟩ | ⟨g', cap', cur, hv, hbg, hh, hnc, hcm, hcs, ht⟩
 · cases hv
 injection hv with ha0 hn0 hc0; injection ha0 with ha0; injection ha0 with hg0; subst hg0; subst hc0; obtain ⟨cur', h3, h4, h5⟩ := setCells_row vs o W cur hh zz1l; refine ⟨hok, inner, ⟨hlen, .inr ⟨g, cap, cur', by rw [← hn0], hbg, h3, hnc, hcm, by rw [h4, hcs], ?_⟩⟩, hr1, fun q p hq => d.M_move (fun k hk => setCells_far vs o k (fun e => hk.2 (by rw [e]; rfl))) (hr2 q p hq)⟩; have hcl : cur.toList.length = cap * d.sz := by rw [← hcs]; rfl
 have h6 : (cur.toList.take o).length = o := by rw [List.length_take, hcl]; omega
 rw [h5, List.take_append_of_le_length (by rw [List.length_append, h6]; omega), List.take_append_of_le_length (by rw [h6]; exact ho), List.take_take, Nat.min_eq_left ho, ht]
theorem S_part {α : Type} {d : Kd α} {f : Nat → Nat} {W : World} {base : Nat} {ok : Nat → Prop} {e : Nat} {v : Value} {zs : List (α × Nat)} (h : (Kd.tag f d).R e W base ok v zs) (hd : (zs.map Prod.snd).Nodup) : Kd.S d e W base ok v (zs.map Prod.fst) := by
 obtain ⟨hok, inner, ho, hr1, hr2⟩ := h; refine ⟨fun b => (zs.map Prod.snd).idxOf (f b), hok, inner, by rw [List.length_zipIdx, List.length_map]; exact ho, by rw [List.length_zipIdx, List.length_map]; exact hr1, fun q p hq => ?_⟩; rw [List.getElem?_zipIdx, Nat.zero_add] at hq; obtain ⟨x, hx, rfl⟩ := Option.map_eq_some_iff.1 hq; rw [List.getElem?_map] at hx; obtain ⟨z, hz, rfl⟩ := Option.map_eq_some_iff.1 hx; refine d.M_mono (fun b hb => ⟨hb.1, ?_⟩) (hr2 q z hz); have h2 : f b = z.2 := hb.2; show (zs.map Prod.snd).idxOf (f b) = q; obtain ⟨hq1, hq2⟩ := List.getElem?_eq_some_iff.1 hz; have h3 : (zs.map Prod.snd)[q]'(by simpa using hq1) = z.2 := by rw [List.getElem_map, hq2]
 rw [h2, ← h3]; exact List.Nodup.idxOf_getElem hd q (by simpa using hq1)
def zc (n : Nat) : List Value := (Builtin.zeroCells #[.int .i64 0, .slice none 0 0] n).toList
theorem take1_of {β : Type} (l : List β) (k : Nat) (a : β) (ha : l[k]? = some a) : (l.drop k).take 1 = [a] := by
 obtain ⟨h1, h2⟩ := List.getElem?_eq_some_iff.1 ha; rw [List.drop_eq_getElem_cons h1, h2]; rfl
theorem take1_ne {β : Type} (l : List β) (q i : Nat) (a : β) (hne : q ≠ i) : ((l.set i a).drop (q * 1)).take 1 = (l.drop (q * 1)).take 1 := by
 apply List.ext_getElem?; intro r; rw [List.getElem?_take, List.getElem?_take]; by_cases hr : r < 1
 · rw [if_pos hr, if_pos hr, List.getElem?_drop, List.getElem?_drop, List.getElem?_set_ne zz1l]
 · rw [if_neg hr, if_neg hr]
theorem R_one {α : Type} {d : Kd α} (hd : d.sz = 1) {W : World} {base : Nat} {ok : Nat → Prop} {e g n cap : Nat} {xs : List α} (h : d.R e W base ok (.slice (some ⟨g, 0, none⟩) n cap) xs) (j : Nat) (x : α) (hx : xs[j]? = some x) :
 ∃ a, W.cell? ⟨g, j, none⟩ = some a ∧ d.M W base (fun k => ok k ∧ some k ≠ some g) x [a] ∧ W.frozen? ⟨g, j, none⟩ = false ∧ g < W.heap.size := by
 obtain ⟨hok, inner, ⟨hlen, hrow⟩, hr1, hr2⟩ := h; rcases hrow with ⟨hv, _⟩ | ⟨g', cap', cur, hv, hbg, hh, hnc, hcm, hcs, ht⟩
 · cases hv
 injection hv with ha0 hn0 hc0; injection ha0 with ha0; injection ha0 with hg0; subst hg0; subst hc0; rw [hd] at hlen hcs ht hr1 hr2; obtain ⟨hj, _⟩ := List.getElem?_eq_some_iff.1 hx; have h0 : j < inner.length := by omega
 have e0 : cur[j]? = inner[j]? := by
  have := congrArg (fun l => l[j]?) ht; simp only [List.getElem?_take] at this; rw [if_pos zz1l, Array.getElem?_toList] at this; exact this
 refine ⟨inner[j], ?_, ?_, zL hh _, blk_lt hh⟩
 · rw [zK hh, e0, List.getElem?_eq_getElem]
 · have := hr2 j x hx; rw [Nat.mul_one, take1_of inner j _ (List.getElem?_eq_getElem h0)] at this; exact this
theorem R_copy1 {α : Type} {d : Kd α} (hd : d.sz = 1) {W : World} {base : Nat} {ok : Nat → Prop} {e g n cap : Nat} {xs : List α} (h : d.R e W base ok (.slice (some ⟨g, 0, none⟩) n cap) xs) (i j : Nat) (hi : i < xs.length) (x : α) (hx : xs[j]? = some x)
 {a : Value} (ha : W.cell? ⟨g, j, none⟩ = some a) :
 d.R e (W.setCell ⟨g, i, none⟩ a) base ok (.slice (some ⟨g, 0, none⟩) n cap) (xs.set i x) := by
 obtain ⟨a', ha', hM, _, _⟩ := R_one hd h j x hx; obtain rfl : a = a' := Option.some.inj (ha.symm.trans ha'); clear ha'; obtain ⟨hok, inner, ⟨hlen, hrow⟩, hr1, hr2⟩ := h; rcases hrow with ⟨hv, _⟩ | ⟨g', cap', cur, hv, hbg, hh, hnc, hcm, hcs, ht⟩
 · cases hv
 injection hv with ha0 hn0 hc0; injection ha0 with ha0; injection ha0 with hg0; subst hg0; subst hc0; have hfar : ∀ k, k ≠ g → (W.setCell ⟨g, i, none⟩ a).heap[k]? = W.heap[k]? := fun k hk => Below.heap_setCell W ⟨g, i, none⟩ a k hk
 have hmv : ∀ y cs, d.M W base (fun k => ok k ∧ some k ≠ some g) y cs → d.M (W.setCell ⟨g, i, none⟩ a) base (fun k => ok k ∧ some k ≠ some g) y cs := fun y cs hm => d.M_move (fun k hk => hfar k (fun e => hk.2 (by rw [e]))) hm
 have hb2 := zO hh i a rfl; refine ⟨hok, inner.set i a, ⟨by rw [List.length_set, List.length_set]; exact hlen, .inr ⟨g, cap, _, by rw [List.length_set, hn0], hbg, hb2, by rw [List.length_set]; exact hnc, hcm, by simpa using hcs, ?_⟩⟩, by rw [List.length_set, List.length_set]; exact hr1, fun q p hq => ?_⟩
 · rw [List.length_set, Array.toList_setIfInBounds, List.take_set, ht]
 · rw [hd] at hr1 hr2 ⊢; by_cases hqi : q = i
   · subst hqi; rw [List.getElem?_set_self hi] at hq; obtain rfl := Option.some.inj hq; rw [Nat.mul_one, take1_of _ q a (by rw [List.getElem?_set_self zz1l])]; exact hmv _ _ hM
   · rw [List.getElem?_set_ne (fun e => hqi e.symm)] at hq; rw [take1_ne _ _ _ _ hqi]; exact hmv _ _ (hr2 q p hq)
def zc1 (n : Nat) : List Value := (Builtin.zeroCells #[.slice none 0 0] n).toList
theorem zc1_len (n : Nat) : (zc1 n).length = n := by simp [zc1, Builtin.zeroCells]
theorem clear_one {P : Program} (w : World) (t e : TypeId) (b o n c : Nat) (ht : P.underlying t = some (.slice e)) (hv : ∀ w, (zeroValue e).run P w = .ok (.slice none 0 0) w) (hn : 0 < n)
 (hc : ∀ j, j < n → (w.cell? ⟨b, o + j, none⟩).isSome = true) (hf : ∀ j, j < n → w.frozen? ⟨b, o + j, none⟩ = false) :
 ∀ ty, (Builtin.clear_ #[t] ty #[.slice (some ⟨b, o, none⟩) n c]).run P w = .ok (.tuple #[]) (w.setCells b o (zc1 n)) := by
 intro ty; have hone : ∀ v ∈ zc1 n, v.oneCell' = true := fun v hv' => by
  simp only [zc1, Builtin.zeroCells, Array.toList_map, List.mem_map] at hv'; obtain ⟨i, _, rfl⟩ := hv'; have h2 : (#[(.slice none 0 0 : Value)]).size = 1 := rfl; rw [h2, Nat.mod_one]; rfl
 have hst := run_storeCells_cells (P := P) b o (zc1 n) 0 w (by rw [zc1_len]; simpa using hc) (by rw [zc1_len]; simpa using hf) hone; simp only [Nat.add_zero] at hst; obtain ⟨m, rfl⟩ : ∃ m, n = m + 1 := ⟨n - 1, zz1l⟩
 have hcl : (Value.slice none 0 0).cells = #[.slice none 0 0] := by simp [Value.cells]
 simp only [zc1] at hst; simp [Builtin.clear_, run_underlying ht, hv, hcl, hst, zc1]
theorem R_split {α : Type} {d : Kd α} (hd : d.sz = 1) {W : World} {base : Nat} {ok : Nat → Prop} {e : Nat} {v : Value} {xs : List α} (h : d.R e W base ok v xs) :
 (v = .slice none 0 0 ∧ xs = []) ∨ ∃ (g cap : Nat) (cur : Array Value), v = .slice (some ⟨g, 0, none⟩) xs.length cap ∧ ok g ∧ base ≤ g ∧ W.heap[g]? = some (.cells cur e (0, 0)) ∧ xs.length ≤ cap ∧ cap ≤ maxLen ∧ cur.size = cap ∧
  ∀ (j : Nat) (x : α), xs[j]? = some x → ∃ a, cur[j]? = some a ∧ d.M W base (fun k => ok k ∧ k ≠ g) x [a] := by
 have h' := h; obtain ⟨hok, inner, ⟨hlen, hrow⟩, hr1, hr2⟩ := h; rcases hrow with ⟨hv, h0⟩ | ⟨g, cap, cur, hv, hbg, hh, hnc, hcm, hcs, ht⟩
 · exact .inl ⟨hv, List.length_eq_zero_iff.1 h0⟩
 · subst hv; refine .inr ⟨g, cap, cur, rfl, hok g rfl, hbg, hh, hnc, hcm, by rw [hcs, hd, Nat.mul_one], fun j x hx => ?_⟩; obtain ⟨a, h1, h2, _, _⟩ := R_one hd h' j x hx; rw [zK hh] at h1; exact ⟨a, h1, d.M_mono (fun k hk => ⟨hk.1, fun e => hk.2 (by rw [e])⟩) h2⟩
theorem R_join {α : Type} {d : Kd α} (hd : d.sz = 1) {W : World} {base g cap : Nat} {ok : Nat → Prop} {e : Nat} {xs : List α} {cur : Array Value} (hok : ok g) (hb : base ≤ g) (hh : W.heap[g]? = some (.cells cur e (0, 0))) (hn : xs.length ≤ cap) (hc : cap ≤ maxLen) (hs : cur.size = cap)
 (hm : ∀ (j : Nat) (x : α), xs[j]? = some x → ∃ a, cur[j]? = some a ∧ d.M W base (fun k => ok k ∧ k ≠ g) x [a]) : d.R e W base ok (.slice (some ⟨g, 0, none⟩) xs.length cap) xs := by
 have e0 : cur.toList.length = cap := by rw [← hs]; rfl
 have hl : (cur.toList.take xs.length).length = xs.length := by rw [List.length_take, e0]; omega
 refine ⟨fun k hk => by have : g = k := by simpa [Value.ownBlock] using hk
                        rw [← this]; exact hok, cur.toList.take xs.length, ⟨by rw [hl, hd, Nat.mul_one], .inr ⟨g, cap, cur, rfl, hb, hh, hn, hc, by rw [hs, hd, Nat.mul_one], by rw [hd, Nat.mul_one]⟩⟩, by rw [hl, hd, Nat.mul_one], fun j x hx => ?_⟩
 obtain ⟨a, h1, h2⟩ := hm j x hx; obtain ⟨hj, _⟩ := List.getElem?_eq_some_iff.1 hx; rw [hd, Nat.mul_one, take1_of _ j a (by rw [List.getElem?_take_of_lt hj, Array.getElem?_toList]; exact h1)]; refine d.M_mono (fun k hk => ⟨hk.1, fun e => hk.2 ?_⟩) h2; have : some k = some g := by simpa [Value.ownBlock] using e
 injection this
end Go.Proofs.YtkocahlifffgjaaGreat.P
namespace Go.Proofs.YtkocahlifffgjaaGreat.P
open Go.RowKit Go.Proofs.YtkocahlifffgjaaGreatW.PrintWords Go.Proofs.YtkocahlifffgjaaGreatW.PrintLast Go.Proofs.YtkocahlifffgjaaGreatW.PrintMore
set_option linter.unusedVariables false
set_option linter.unusedSimpArgs false
structure RowV (f : Nat → Nat) (W : World) (base : Nat) (ok : Nat → Prop) where
 v : Value
 z : List Int × Nat
 m : (Kd.tag f (Kd.slice 3 (Kd.int .i64))).M W base ok z [v]
theorem rowV_none (f : Nat → Nat) (W : World) (base : Nat) (ok : Nat → Prop) : (Kd.tag f (Kd.slice 3 (Kd.int .i64))).M W base ok ([], 0) [.slice none 0 0] := ⟨.slice none 0 0, rfl, Kd.R_nil _ _ _ _ _⟩
instance (f : Nat → Nat) (W : World) (base : Nat) (ok : Nat → Prop) : Inhabited (RowV f W base ok) := ⟨⟨.slice none 0 0, ([], 0), rowV_none f W base ok⟩⟩
theorem RowV.cell {f : Nat → Nat} {W : World} {base : Nat} {ok : Nat → Prop} (x : RowV f W base ok) : (x.v).oneCell' = true := by
 obtain ⟨v, z, v', hv, hR⟩ := x; injection hv with hv; subst hv; obtain ⟨A, c, rfl⟩ := Kd.R_slice hR; rfl
section
variable {α : Type} [Inhabited α]
theorem heap_sortW (enc : α → Value) {w : World} {g n : Nat} {os : Array Obj} {cur : Array Value} {e : TypeId} {fr : Nat × Nat} (d : Array α) (hb : w.heap[g]? = some (.cells cur e fr)) :
 (Go.Sort.grow (Go.Sort.putRow enc (Go.Sort.ahead w n) g 0 d) os).heap[g]? = some (.cells (Go.Sort.putCells enc 0 d cur) e fr) := by
 have hg : g < w.heap.size := (Array.getElem?_eq_some_iff.1 hb).1; rw [Go.Sort.heap_grow_old _ _ (by simpa using hg)]; simp [Go.Sort.putRow, Go.Sort.mapBlock, Go.Sort.ahead, Array.getElem?_modify, hb, Go.Sort.onCells]
theorem grownBy_sortW (enc : α → Value) {w : World} {g n : Nat} {os : Array Obj} (d : Array α) : w.grownBy (Go.Sort.grow (Go.Sort.putRow enc (Go.Sort.ahead w n) g 0 d) os) (some g) := by
 refine ⟨rfl, rfl, rfl, zz1m, fun k hk hne => ?_⟩; rw [Go.Sort.heap_grow_old _ _ (by simpa using hk)]; have : g ≠ k := fun e => hne (by rw [e])
 simp [Go.Sort.putRow, Go.Sort.mapBlock, Go.Sort.ahead, Array.getElem?_modify, this]
theorem get_putCells (enc : α → Value) (cur : Array Value) (d : Array α) (j : Nat) (x : α) (hj : d[j]? = some x) (hc : d.size ≤ cur.size) : (Go.Sort.putCells enc 0 d cur)[j]? = some (enc x) := by
 obtain ⟨h1, h2⟩ := Array.getElem?_eq_some_iff.1 hj; have h3 : d[j]! = x := by rw [getElem!_pos d j h1, h2]
 have h4 : j < cur.size := by omega
 unfold Go.Sort.putCells; rw [Array.getElem?_mapIdx, Array.getElem?_eq_getElem h4, Option.map_some, if_pos ⟨Nat.zero_le _, zz1l⟩, Nat.sub_zero, h3]
end
theorem RowV.reads {f : Nat → Nat} {W V : World} {base g : Nat} {ok : Nat → Prop} (x : RowV f W base (fun k => ok k ∧ k ≠ g)) (hV : W.grownBy V (some g)) :
 ∃ A c, x.v = .slice A x.z.1.length c ∧ x.z.1.length ≤ c ∧ Kd.C (Kd.int .i64) V A x.z.1.length x.z.1 := by
 have h := Kd.M_grown (d := Kd.tag f (Kd.slice 3 (Kd.int .i64))) x.m hV (fun k hk e => hk.2 (Option.some.inj e)); obtain ⟨v', hv, hR⟩ := h; injection hv with hv; obtain ⟨A, c, h1, h2, h3⟩ := Kd.R_reads hR; exact ⟨A, c, hv.trans h1, h2, h3⟩
theorem cmpL_swo {α : Type} (p : α → List Int) : Go.Sort.SWO (ltOf fun x y : α => cmpL (p x) (p y)) where
 irrefl x := by unfold ltOf; show decide (cmpL (p x) (p x) < 0) = false; rw [cmpL_self]; rfl
 trans x y z h1 h2 := by unfold ltOf at *; simp only [decide_eq_true_eq] at *; exact cmpL_trans _ _ _ h1 h2
 ntrans x y z h1 h2 := by
  unfold ltOf at *
  simp only [decide_eq_false_iff_not] at *
  intro h3; by_cases e : p y = p x
  · rw [← e] at h3; exact h2 h3
  · have h4 : cmpL (p y) (p x) < 0 := cmpL_flip h1 (fun e' => e e'.symm); exact h2 (cmpL_trans _ _ _ h4 h3)
theorem sortRows_calls (f : Nat → Nat) (base : Nat) (ok : Nat → Prop) (v : Value) (zs : List (List Int × Nat)) (w : World) (hR : (Kd.tag f (Kd.slice 3 (Kd.int .i64))).R 23 w base ok v zs) (hl : zs.length < 4611686018427387904) :
 Calls Tryz.prog 83 #[v, .func (.func 53) #[] #[]] w fun e w' => e = .returned (.tuple #[]) ∧ ∃ zs', zs'.Perm zs ∧ zs'.Pairwise (fun a b => ¬ cmpL b.1 a.1 < 0) ∧ (Kd.tag f (Kd.slice 3 (Kd.int .i64))).R 23 w' base ok v zs' ∧ w.grownBy w' v.ownBlock := by
 rcases R_split rfl hR with ⟨rfl, rfl⟩ | ⟨g, cap, cur, rfl, hok, hbg, hh, hnc, hcm, hcs, hm⟩
 · refine (AnyF.slices_SortFunc_none { Tryz.srtf with } none 0 _ w).mono fun e w' ⟨he, hw⟩ => ?_
   subst hw; exact ⟨he, [], .nil, .nil, Kd.R_nil _ _ _ _ _, ⟨rfl, rfl, rfl, Nat.le_refl _, fun _ _ _ => rfl⟩⟩
 · have hg : g < w.heap.size := blk_lt hh; have hrow : (Value.slice (some (⟨g, 0, none⟩ : Addr)) zs.length cap).ownBlock = some g := rfl; have pick : ∀ j, (hj : j < zs.length) → ∃ y : RowV f w base (fun k => ok k ∧ k ≠ g), cur[j]? = some y.v ∧ y.z = zs[j] := fun j hj => by
    obtain ⟨a, h1, h2⟩ := hm j zs[j] (List.getElem?_eq_getElem hj); exact ⟨⟨a, zs[j], h2⟩, h1, rfl⟩
   obtain ⟨d, hd0, hd1⟩ : ∃ d : Array (RowV f w base (fun k => ok k ∧ k ≠ g)), d.size = zs.length ∧ ∀ j, (hj : j < d.size) → ∃ hz : j < zs.length, cur[j]? = some (d[j]).v ∧ (d[j]).z = zs[j] := by
    refine ⟨Array.ofFn fun i : Fin zs.length => Classical.choose (pick i.val i.isLt), zz1m, fun j hj => ?_⟩; have hz : j < zs.length := by simpa using hj
    refine ⟨hz, ?_⟩; rw [Array.getElem_ofFn]; exact Classical.choose_spec (pick j hz)
   have eg : ∀ args w, (callFunc 53 args).run Tryz.prog w = .ok (.enter 53 args) w := enters_of Tryz.func53 zz1h rfl; have hH : Go.Sort.Holds (fun x : RowV f w base (fun k => ok k ∧ k ≠ g) => x.v) w g 0 d := fun j hj => by
    obtain ⟨_, h1, _⟩ := hd1 j hj; rw [Nat.zero_add, getElem!_pos d j hj]; exact ⟨(zK hh j).trans h1, zL hh j⟩
   have hcmp : CmpLays1 Tryz.prog 53 #[] (fun x : RowV f w base (fun k => ok k ∧ k ≠ g) => x.v) (fun x y => cmpL x.z.1 y.z.1) g 0 d.size w := fun m os dk hdk x y => by
    obtain ⟨A1, c1, e1, l1, r1⟩ := x.reads (V := sortWorld (fun x : RowV f w base (fun k => ok k ∧ k ≠ g) => x.v) w g 0 m dk os) (grownBy_sortW _ dk); obtain ⟨A2, c2, e2, l2, r2⟩ := y.reads (V := sortWorld (fun x : RowV f w base (fun k => ok k ∧ k ≠ g) => x.v) w g 0 m dk os) (grownBy_sortW _ dk); have hb := r1.2.1; show Calls Tryz.prog 53 #[x.v, y.v] _ _; rw [e1, e2]; refine (slices_Compare_int_int.calls (x.z.1.length + 1) A1 c1 x.z.1 A2 c2 y.z.1 _ _ r1 l1 r2 l2 (compare_eq x.z.1 y.z.1 hb _ (Nat.lt_succ_self _))).mono fun e w' ⟨he, q, hq⟩ => ⟨he, q, #[], by rw [Go.Sort.grow_empty]; exact hq⟩
   have S := Any.slices_SortFunc Tryz.srtf (fun x : RowV f w base (fun k => ok k ∧ k ≠ g) => x.v) (fun x => x.cell) (fun x y => cmpL x.z.1 y.z.1) (cmpL_swo fun x : RowV f w base (fun k => ok k ∧ k ≠ g) => x.z.1) 53 #[] g 0 cap d w eg hcmp hH hg (by rw [hd0]; exact hl); rw [hd0] at S; refine S.mono fun e w' ⟨he, d', n, os, ⟨hp1, _, hp3⟩, hs, hw⟩ => ⟨he, d'.toList.map fun y => y.z, ?_, ?_, ?_, ?_⟩
   · rw [← hd0] at hp3; rw [show d'.extract 0 d.size = d' by rw [← hp1]; exact Array.extract_size, Array.extract_size] at hp3; have h4 : d.toList.map (fun y => y.z) = zs := by
      apply List.ext_getElem
      · simp [hd0]
      · intro j h1 h2; obtain ⟨_, _, h5⟩ := hd1 j (by rw [hd0]; exact h2); simp [h5]
     rw [← h4]; exact hp3.map _
   · rw [List.pairwise_map, List.pairwise_iff_getElem]; intro i j hi hj hij; have hi' : i < d'.size := by simpa using hi
     have hj' : j < d'.size := by simpa using hj
     have h5 := hs i j (Nat.zero_le _) hij (by rw [← hd0, ← hp1]; exact hj'); rw [getElem!_pos d' j hj', getElem!_pos d' i hi'] at h5; have h6 := of_decide_eq_false h5; simpa using h6
   · subst hw; have hh2 := heap_sortW (fun x : RowV f w base (fun k => ok k ∧ k ≠ g) => x.v) (n := n) (os := os) d' hh; have hsz : d'.size = zs.length := hp1.trans hd0; have hlen : (d'.toList.map fun y => y.z).length = zs.length := by simp [hsz]
     have J := R_join (d := Kd.tag f (Kd.slice 3 (Kd.int .i64))) (W := sortWorld (fun x : RowV f w base (fun k => ok k ∧ k ≠ g) => x.v) w g 0 n d' os) (xs := d'.toList.map fun y => y.z) (ok := ok) (base := base) (cap := cap) (g := g) (e := 23) rfl hok hbg hh2 (by rw [hlen]; exact hnc) hcm (by simp [Go.Sort.putCells, hcs]) (fun j x hx => by
      rw [List.getElem?_map] at hx; obtain ⟨y, hy, rfl⟩ := Option.map_eq_some_iff.1 hx; rw [Array.getElem?_toList] at hy; exact ⟨y.v, get_putCells _ cur d' j y hy (by rw [hsz, hcs]; exact hnc), Kd.M_grown y.m (grownBy_sortW _ d') (fun k hk e => hk.2 (Option.some.inj e))⟩)
     rw [hlen] at J; exact J
   · subst hw; exact grownBy_sortW _ d'
structure Later (w : World) where
 v : World
 below : Below w.heap.size w v
instance (w : World) : Inhabited (Later w) := ⟨⟨w, Below.refl _ w⟩⟩
theorem wp_region_later {P : Program} {id : Nat} {Q : Exit → Act → World → Prop} {a : Act} {w : World} {l : List Oper} (hm : P.follows .mixedOrders = true) (hB : Region.lexB .any l.toArray = true)
 (h : wpQuiet P l.toArray (fun w' => ∃ p : Later w, w' = p.v) (fun a' => ∀ w', (∃ p : Later w, w' = p.v) → Q .normal a' w') l a) : (Code.region id l.toArray true).wp P Q a w :=
 wp_region_quiet (C := fun w' => ∃ p : Later w, w' = p.v) hm hB ⟨⟨w.drew, (Below.refl _ w).drew⟩, rfl⟩ (by simpa using h)
theorem Later.call {P : Program} {f : FuncId} {args : Array Value} {w : World} {p : Later w} {v : Value}
 (h : Calls P f args p.v fun e w' => e = .returned v ∧ Below p.v.heap.size p.v w') : Calls P f args p.v fun e w'' => e = .returned v ∧ ∃ p' : Later w, w'' = p'.v :=
 h.mono fun e w' ⟨he, hb⟩ => ⟨he, ⟨w', p.below.trans (hb.mono p.below.size)⟩, rfl⟩
theorem Later.callD {P : Program} {f : FuncId} {args : Array Value} {w : World} {p : Later w} {v : Value}
 (h : Calls P f args p.v fun e w' => e = .returned v ∧ Drawn0 p.v w') : Calls P f args p.v fun e w'' => e = .returned v ∧ ∃ p' : Later w, w'' = p'.v :=
 Later.call (h.mono fun e w' ⟨he, n, hn⟩ => ⟨he, by subst hn; exact zC (Below.refl _ _) n⟩)
theorem Later.cell {w : World} {a : Addr} {v : Value} (h : w.cell? a = some v) (p : Later w) : p.v.cell? a = some v := (p.below.cell (World.block_lt_of_cell? w _ h)).trans h
end Go.Proofs.YtkocahlifffgjaaGreat.P
namespace Go.Proofs.YtkocahlifffgjaaGreat.P
open Go.RowKit Go.Proofs.YtkocahlifffgjaaGreatW.PrintWords Go.Proofs.YtkocahlifffgjaaGreatW.PrintLast Go.Proofs.YtkocahlifffgjaaGreatW.PrintMore
attribute [local go_sem] max2_int min2_int max_two min_two max_three min_three max_four min_four
set_option linter.unusedVariables false
set_option linter.unusedSimpArgs false
def slices_Equal_int_int.l0 : Nat → List Int → List Int → Int → Int → Option (Bool)
 | 0, _, _, _, _ => none
 | k + 1, x0, x1, g4, eb => if eb < g4 then (if 0 ≤ eb then (if eb < (x0.length : Int) then (if eb < (x1.length : Int) then (if (rd x0 eb) = (rd x1 eb) then (slices_Equal_int_int.l0 k x0 x1 g4 (wrap64 (eb + 1))) else (some false)) else (none)) else (none)) else (none)) else (some true)
def slices_Equal_int_int.f (k : Nat) (l0 : List Int) (l1 : List Int) : Option (Bool) := if (l0.length : Int) = (l1.length : Int) then (slices_Equal_int_int.l0 k l0 l1 (l0.length : Int) 0) else (some false)
set_option maxHeartbeats 8000000 in
set_option maxRecDepth 100000 in
theorem slices_Equal_int_int.calls (k : Nat) (A0 : Option Addr) (c0 : Nat) (l0 : List Int) (A1 : Option Addr) (c1 : Nat) (l1 : List Int) (r : Bool) (w : World) (dA : Kd.C (Kd.int .i64) w A0 l0.length l0) (dB : l0.length ≤ c0) (eJ : Kd.C (Kd.int .i64) w A1 l1.length l1) (eK : l1.length ≤ c1) (h : slices_Equal_int_int.f k l0 l1 = some r) :
 Calls Tryz.prog 85 #[.slice A0 l0.length c0, .slice A1 l1.length c1] w fun e w' => e = .returned (.bool r) ∧ Drawn0 w w' := by
 have dm := zA dA; have im := zA dB; clear dA dB; have eT := zA eJ; have g5 := zA eK; clear eJ eK; have H : (if (l0.length : Int) = (l1.length : Int) then (slices_Equal_int_int.l0 k l0 l1 (l0.length : Int) 0) else (some false)) = some r := h; clear h; by_cases c3 : (l0.length : Int) = (l1.length : Int)
 · rw [if_pos c3] at H; have cL : ((l0.length : Int) == (l1.length : Int)) = true := beq_iff_eq.mpr c3; have fp : ((l0.length : Int) != (l1.length : Int)) = false := bne_eq_false_iff_eq.mpr c3; have hl : (l0.length == l1.length) = true := by first | simpa using c3 | (simp at c3 ⊢; omega)
   clear c3; have H' := zA H; clear H; go_enter Tryz.func85, Tryz.ntmps85; go_wp2; (repeat (go_quiet (fail); try go_wp2)); go_loopg [13] k (fun kq rV w' => ∃ (bi : Int), rV = .int .i64 bi ∧ Aside0 (slices_Equal_int_int.l0 kq l0 l1 (l0.length : Int) bi = some r) ∧ Aside0 (kq ≤ k) ∧ Drawn0 w w')
   case atStart => exact ⟨(0), zz12, H', ⟨Nat.le_refl _⟩, zz10⟩
   case round =>
    clear H'; (try clear c1); (try clear p2); (try clear c3); (try clear cL); (try clear fp); (try clear hl); obtain ⟨bi, rfl, HA, bw, ⟨m1, rfl⟩⟩ := hrel; cases gk with
    | zero => exact absurd HA.out (by simp [slices_Equal_int_int.l0])
    | succ k1 =>
     have H := HA.out; clear HA; simp only [slices_Equal_int_int.l0] at H; by_cases c4 : bi < (l0.length : Int)
     · rw [if_pos c4] at H; have cZ := decide_eq_true c4; clear c4; replace H := zIn H; obtain ⟨c5, H⟩ := H; have eQ : decide (0 ≤ bi) = true := decide_eq_true c5; clear c5; replace H := zIn H; obtain ⟨c6, H⟩ := H; have dk : decide (bi < (l0.length : Int)) = true := decide_eq_true c6; clear c6; replace H := zIn H; obtain ⟨c7, H⟩ := H; have dF : decide (bi < (l1.length : Int)) = true := decide_eq_true c7; clear c7; by_cases c8 : (rd l0 bi) = (rd l1 bi)
       · rw [if_pos c8] at H; have d3 : ((rd l0 bi) == (rd l1 bi)) = true := beq_iff_eq.mpr c8; have mK : ((rd l0 bi) != (rd l1 bi)) = false := bne_eq_false_iff_eq.mpr c8; clear c8; have H' := zA H; clear H; have aH : 0 ≤ (bi : Int) := of_decide_eq_true zz1g; have aI : bi < (l0.length : Int) := of_decide_eq_true zz1g; obtain ⟨bf, bx, a9⟩ := Kd.at_int dm.out bi aH aI; cases bx; replace aH := eq_true aH; replace aI := eq_true aI; have b1 : 0 ≤ (bi : Int) := of_decide_eq_true zz1g; have b2 : bi < (l1.length : Int) := of_decide_eq_true zz1g; obtain ⟨dG, dl, b9⟩ := Kd.at_int eT.out bi b1 b2; cases dl; replace b1 := eq_true b1; replace b2 := eq_true b2; go_wp2; repeat (go_quiet (fail); try go_wp2)
         go_roundg k1
         case measure => have := bw.out; omega
         case rel => exact ⟨(wrap64 (bi + 1)), zz12, H', ⟨zz1b bw⟩, zz10⟩
       · rw [if_neg c8] at H; have d3 : ((rd l0 bi) == (rd l1 bi)) = false := beq_eq_false_iff_ne.mpr c8; have mK : ((rd l0 bi) != (rd l1 bi)) = true := bne_iff_ne.mpr c8; obtain rfl := Option.some.inj H; have aH : 0 ≤ (bi : Int) := of_decide_eq_true zz1g; have aI : bi < (l0.length : Int) := of_decide_eq_true zz1g; obtain ⟨bf, bx, a9⟩ := Kd.at_int dm.out bi aH aI; cases bx; replace aH := eq_true aH; replace aI := eq_true aI; have b1 : 0 ≤ (bi : Int) := of_decide_eq_true zz1g; have b2 : bi < (l1.length : Int) := of_decide_eq_true zz1g; obtain ⟨dG, dl, b9⟩ := Kd.at_int eT.out bi b1 b2; cases dl; replace b1 := eq_true b1; replace b2 := eq_true b2; go_wp2; (repeat (go_quiet (fail); try go_wp2)); go_ret; exact ⟨zz12, zz10⟩
     · rw [if_neg c4] at H; have cZ := decide_eq_false c4; clear c4; obtain rfl := Option.some.inj H; go_wp2; (repeat (go_quiet (fail); try go_wp2)); go_ret; exact ⟨zz12, zz10⟩
 · rw [if_neg c3] at H; have cL : ((l0.length : Int) == (l1.length : Int)) = false := beq_eq_false_iff_ne.mpr c3; have fp : ((l0.length : Int) != (l1.length : Int)) = true := bne_iff_ne.mpr c3; have hl : (l0.length == l1.length) = false := by first | simpa using c3 | (simp at c3 ⊢; omega)
   obtain rfl := Option.some.inj H; go_enter Tryz.func85, Tryz.ntmps85; go_wp2; (repeat (go_quiet (fail); try go_wp2)); go_ret; exact ⟨zz12, zz10⟩
end Go.Proofs.YtkocahlifffgjaaGreat.P
namespace Go.Proofs.YtkocahlifffgjaaGreat.P
open Go.RowKit Go.Proofs.YtkocahlifffgjaaGreatW.PrintWords Go.Proofs.YtkocahlifffgjaaGreatW.PrintLast Go.Proofs.YtkocahlifffgjaaGreatW.PrintMore
set_option linter.unusedVariables false
set_option linter.unusedSimpArgs false
theorem sliceEqR_loop (a b : List Int) (hl : a.length = b.length) (hb : a.length ≤ 9223372036854775807) (d : Nat) : ∀ (k i : Nat), i ≤ a.length → a.length - i = d → d < k →
 slices_Equal_int_int.l0 k a b a.length i = some (decide (a.drop i = b.drop i)) := by
 induction d with
 | zero =>
  intro k i h1 hd hk; obtain ⟨k, rfl⟩ : ∃ m, k = m + 1 := ⟨k - 1, zz1l⟩
  simp only [slices_Equal_int_int.l0]; rw [if_neg zz1l]; rw [List.drop_of_length_le zz1l, List.drop_of_length_le zz1l]; simp
 | succ d ih =>
  intro k i h1 hd hk; obtain ⟨k, rfl⟩ : ∃ m, k = m + 1 := ⟨k - 1, zz1l⟩
  simp only [slices_Equal_int_int.l0]; rw [if_pos zz1l, if_pos zz1l, if_pos zz1l, if_pos zz1l]; have hw : wrap64 ((i : Int) + 1) = ((i + 1 : Nat) : Int) := by unfold wrap64; omega
  have ea : a.drop i = rd a i :: a.drop (i + 1) := by
   rw [List.drop_eq_getElem_cons (show i < a.length by omega)]; congr 1; unfold rd; rw [List.getD_eq_getElem?_getD, Int.toNat_natCast, List.getElem?_eq_getElem zz1l]; rfl
  have eb : b.drop i = rd b i :: b.drop (i + 1) := by
   rw [List.drop_eq_getElem_cons (show i < b.length by omega)]; congr 1; unfold rd; rw [List.getD_eq_getElem?_getD, Int.toNat_natCast, List.getElem?_eq_getElem zz1l]; rfl
  by_cases he : rd a i = rd b i
  · rw [if_pos he, hw, ih k (i + 1) zz1l zz1l zz1l, ea, eb, he]; congr 1; simp
  · rw [if_neg he, ea, eb]; simp [he]
theorem sliceEqR_eq (a b : List Int) (hb : a.length ≤ 9223372036854775807) : ∀ k, a.length < k → slices_Equal_int_int.f k a b = some (decide (a = b)) := by
 intro k hk; unfold slices_Equal_int_int.f; by_cases hl : a.length = b.length
 · rw [if_pos zz1l]; have := sliceEqR_loop a b hl hb a.length k 0 zz1l zz1l hk; simpa using this
 · rw [if_neg zz1l]; have : a ≠ b := fun h => hl (by rw [h])
   simp [this]
def sortR (l : List (List Int)) : List (List Int) := l.mergeSort fun a b => !decide (cmpL b a < 0)
theorem sortR_perm (l : List (List Int)) : (sortR l).Perm l := List.mergeSort_perm _ _
theorem sortR_up (l : List (List Int)) : (sortR l).Pairwise (fun a b => ¬ cmpL b a < 0) := by
 have h := List.pairwise_mergeSort (le := fun (a b : List Int) => !decide (cmpL b a < 0)) (fun a b c h1 h2 => by
  simp only [Bool.not_eq_true', decide_eq_false_iff_not] at *
  exact fun h => (Go.Sort.SWO.ntrans (cmpL_swo (id : List Int → List Int)) c b a (decide_eq_false h2) (decide_eq_false h1)) |> fun e => by
   unfold ltOf at e; exact of_decide_eq_false e h) (fun a b => by
  by_cases c : cmpL b a < 0
  · have h := cmpL_neg b a; simp only [Bool.or_eq_true, Bool.not_eq_true', decide_eq_false_iff_not]; exact .inr zz1l
  · simp [c]) l
 exact h.imp fun h => by simpa using h
theorem sortR_of {l m : List (List Int)} (hp : m.Perm l) (hs : m.Pairwise (fun a b => ¬ cmpL b a < 0)) : m = sortR l :=
 List.Perm.eq_of_pairwise (le := fun a b => ¬ cmpL b a < 0) (fun a b _ _ h1 h2 => cmpL_eq a b (by have := cmpL_neg a b; omega)) hs (sortR_up l) (hp.trans (sortR_perm l).symm)
theorem compact_sortR (l : List (List Int)) : dedupA (sortR l) = sortL l := dedup_sort (sortR_perm l) (sortR_up l)
theorem below_grownBy {w0 w w' : World} {row : Option Nat} (hB : Below w0.heap.size w0 w) (hg : w.grownBy w' row) (hr : ∀ k, row = some k → w0.heap.size ≤ k) : Below w0.heap.size w0 w' := hB.grown hg hB.size hr
theorem sortS_calls (ok : Nat → Prop) (v : Value) (l : List (List Int)) (w0 w : World) (hB : Below w0.heap.size w0 w) (hS : Kd.S (Kd.slice 3 (Kd.int .i64)) 23 w w0.heap.size ok v l) (hlen : l.length < 4611686018427387904) :
 Calls Tryz.prog 83 #[v, .func (.func 53) #[] #[]] w fun e w' => e = .returned (.tuple #[]) ∧ Kd.S (Kd.slice 3 (Kd.int .i64)) 23 w' w0.heap.size ok v (sortR l) ∧ Below w0.heap.size w0 w' := by
 have hbase := fun k (hk : v.ownBlock = some k) => Kd.R_base (Kd.S_R hS) k hk
 obtain ⟨f, hR⟩ := hS; refine (sortRows_calls f w0.heap.size ok v l.zipIdx w hR (by rw [List.length_zipIdx]; exact hlen)).mono fun e w' ⟨he, zs, hp, hs, hR', hg⟩ => ⟨he, ?_, below_grownBy hB hg hbase⟩
 have e1 : zs.map Prod.fst = sortR l := sortR_of (by have := hp.map Prod.fst; rwa [List.zipIdx_map_fst] at this) (by rw [List.pairwise_map]; exact hs); have e2 : (zs.map Prod.snd).Nodup := (hp.map Prod.snd).nodup_iff.2 (by rw [List.zipIdx_map_snd]; exact List.nodup_range'); rw [← e1]; exact S_part hR' e2
theorem grown_cells1 {w : World} {g : Nat} (o : Nat) (vs : List Value) : w.grownBy (w.setCells g o vs) (some g) := by
 obtain ⟨s1, s2, s3, s4⟩ := setCells_same g vs o w; exact ⟨s1, s2, s3, by rw [s4]; exact Nat.le_refl _, fun k hk hn => setCells_far vs o k (fun e => hn (by rw [e]))⟩
set_option maxHeartbeats 4000000 in
set_option maxRecDepth 100000 in
theorem compactS_calls (ok : Nat → Prop) (v : Value) (l : List (List Int)) (w0 w : World) (hB : Below w0.heap.size w0 w) (hS : Kd.S (Kd.slice 3 (Kd.int .i64)) 23 w w0.heap.size ok v l) :
 Calls Tryz.prog 84 #[v, .func (.func 85) #[] #[]] w fun e w' => ∃ v', e = .returned v' ∧ Kd.S (Kd.slice 3 (Kd.int .i64)) 23 w' w0.heap.size ok v' (dedupA l) ∧ Below w0.heap.size w0 w' := by
 have eg : ∀ args w, (callFunc 85 args).run Tryz.prog w = .ok (.enter 85 args) w := enters_of Tryz.func85 zz1h rfl; obtain ⟨A, c, rfl⟩ := Kd.R_slice (Kd.S_R hS); obtain ⟨_, hcap, hC⟩ := Kd.S_reads' hS; have hml : l.length ≤ 9223372036854775807 := hC.2.1; by_cases h2 : l.length < 2
 · have d1 : decide ((l.length : Int) < 2) = true := decide_eq_true zz1l; have d2 : decide (l.length < 2) = true := decide_eq_true h2; have FIN := zA (show dedupA l = l from dedupA_self fun j a b => by omega); have HS := zA hS; have HB := zA hB; clear hS hC hcap eg hB h2; go_enter Tryz.func84, Tryz.ntmps84; go_wp2; go_ret; exact ⟨_, rfl, zz1a FIN HS, HB.out⟩
 · have d1 : decide ((l.length : Int) < 2) = false := decide_eq_false zz1l; have d2 : decide (l.length < 2) = false := decide_eq_false h2; obtain ⟨ga, cap, hv, hbg, hga, _⟩ := Kd.S_form hS zz1l; injection hv with hA _ hc0; subst hc0; subst hA; obtain ⟨ad, had⟩ : ∃ ad : Addr, ad = ⟨ga, 0, none⟩ := ⟨_, rfl⟩
   have AD := zA had; have GE := zA hbg; have HS := zA hS; obtain ⟨f, hR⟩ := hS; have HR := zA hR; have HCAP := zA hcap; have HB := zA hB; have H2 := zA h2; rw [← had]; clear hR hcap had hbg hga hC hB h2; go_enter Tryz.func84, Tryz.ntmps84; go_wp2; clear d1 d2; go_loopg [5] l.length (fun gg s5 wr => ∃ kk : Nat, 1 ≤ kk ∧ kk ≤ l.length ∧ l.length - kk ≤ gg ∧ s5 = .int .i64 kk ∧ Aside0 (∀ j, 1 ≤ j → j < kk → l.getD j [] ≠ l.getD (j - 1) []) ∧ Aside0 (Below w0.heap.size w0 wr) ∧ Aside0 (Kd.S (Kd.slice 3 (Kd.int .i64)) 23 wr w0.heap.size ok (.slice (some ad) l.length c) l) ∧ Aside0 ((Kd.tag f (Kd.slice 3 (Kd.int .i64))).R 23 wr w0.heap.size ok (.slice (some ⟨ga, 0, none⟩) l.length c) l.zipIdx))
   case atStart => exact ⟨1, Nat.le_refl _, zz1b H2, zz1l, rfl, ⟨fun j a b => by omega⟩, HB, ⟨zz1a AD HS⟩, HR⟩
   case round =>
    clear HB HR HS; obtain ⟨kk, hk1, hkk, hg, rfl, NE, HB, HS, HR⟩ := hrel; by_cases hlt : kk < l.length
    · obtain ⟨m, rfl⟩ : ∃ m, kk = m + 1 := ⟨kk - 1, zz1l⟩
      have hd : decide (m + 1 < l.length) = true := decide_eq_true hlt; have hdi : decide ((m : Int) + 1 < (l.length : Int)) = true := decide_eq_true zz1l; obtain ⟨a1, hx1, ⟨v1, hcs1, hRr1⟩, _, _⟩ := R_one rfl HR.out (m + 1) _ (zipAt hlt); obtain ⟨a2, hx2, ⟨v2, hcs2, hRr2⟩, _, _⟩ := R_one rfl HR.out m _ (zipAt (show m < l.length by omega)); injection hcs1 with e1 _; injection hcs2 with e2 _; obtain ⟨A1, c1, e3, hl1, hi1⟩ := Kd.R_reads hRr1; obtain ⟨A2, c2, e4, hl2, hi2⟩ := Kd.R_reads hRr2; rw [e1, e3] at hx1; rw [e2, e4] at hx2; have q1 := Later.cell (w := wr) (a := ⟨ad.block, ad.off + (m + 1), none⟩) (v := .slice A1 (l.getD (m + 1) []).length c1) (by rw [AD.out]; show wr.cell? ⟨ga, 0 + (m + 1), none⟩ = _; rw [Nat.zero_add]; exact hx1); have q2 := Later.cell (w := wr) (a := ad.add m) (v := .slice A2 (l.getD m []).length c2) (by rw [AD.out, add_at, Nat.zero_add]; exact hx2); have q3 := Later.cell (w := wr) (a := ⟨ad.block, ad.off + m, none⟩) (v := .slice A2 (l.getD m []).length c2) (by rw [AD.out]; show wr.cell? ⟨ga, 0 + m, none⟩ = _; rw [Nat.zero_add]; exact hx2); have HI1 := zA (show Kd.C (Kd.int .i64) wr A1 (l.getD (m + 1) []).length (l.getD (m + 1) []) from hi1); have HI2 := zA (show Kd.C (Kd.int .i64) wr A2 (l.getD m []).length (l.getD m []) from hi2); have HL1 := zA (show (l.getD (m + 1) []).length ≤ c1 from hl1); have HL2 := zA (show (l.getD m []).length ≤ c2 from hl2); have YE := zA (show l.getD (m + 1) [] = l.getD (m + 1) [] from rfl); have ZE := zA (show l.getD m [] = l.getD m [] from rfl); have hmy := zA hi1.2.1; have L := zA hlt; have H1 := zA hkk; clear hx1 hx2 hRr1 hRr2 hi1 hi2 hl1 hl2 e1 e2 e3 e4 hkk; have hlt0 : m < l.length := by omega
      clear v1 v2; have YE2 : ∃ y, y = l.getD (m + 1) [] := ⟨_, rfl⟩
      have ZE2 : ∃ z, z = l.getD m [] := ⟨_, rfl⟩
      obtain ⟨y, hy⟩ := YE2; obtain ⟨z, hz⟩ := ZE2; rw [← hy] at q1 HI1 HL1; rw [← hz] at q2 q3 HI2 HL2; have YQ := zA hy; have ZQ := zA hz; have JE := zA (sliceEqR_eq y z HI1.out.2.1 (y.length + 1) (Nat.lt_succ_self _)); clear hy hz YE ZE hmy
      go_upto_region 6 with fail
      by_cases heq : y = z
      · rw [decide_eq_true heq] at JE; have EQV := zA heq; clear heq; have EQ := fun (W : World) (hW : Below wr.heap.size wr W) => slices_Equal_int_int.calls (y.length + 1) A1 c1 y A2 c2 z true W (zS HI1.out hW) HL1.out (zS HI2.out hW) HL2.out JE.out
        refine wp_region_later zz1h zz1h ?_; (repeat (go_big_quiet_step (first | (go_at_fn 85; with_reducible exact Later.callD (EQ _ (Later.below _)))))); refine wpQuiet_nil ?_; intro w4_ hw4; obtain ⟨⟨w4, hb4⟩, hw4⟩ := hw4; subst hw4; (try dsimp only); have HB4 := zA (zG HB.out hb4); have HR4 := zA (Kd.R_below HR.out hb4); have CI := zA (cmpI_start (xs := l) (k := m + 1) zz1l L.out NE.out (by rw [show m + 1 - 1 = m by omega, ← YQ.out, ← ZQ.out]; exact EQV.out)); clear hb4 EQ q1 q2 q3 HR HB HS HI1 HI2 HL1 HL2 JE EQV NE YQ ZQ; have HB := HB4; have HR := HR4; clear HB4 HR4; obtain ⟨k0, hk0⟩ : ∃ k0, k0 = m + 1 := ⟨_, rfl⟩
        have K0 := zA hk0; rw [← hk0] at CI L H1; have hcap := HCAP.out; obtain ⟨i0, hi0, hz0, hsz0, _⟩ := info_parts info23; have hcut0 := cut_from (P := Tryz.prog) 22 23 .i64 Tryz.underlying22 hi0 1 hsz0 (some ad) l.length c ((m + 1 : Nat) : Int) zz1l (zz1b L); obtain ⟨bd, hbd⟩ : ∃ bd : Addr, bd = ⟨ga, k0, none⟩ := ⟨_, rfl⟩
        have BD := zA hbd; obtain ⟨n2, hn2⟩ : ∃ n2, n2 = l.length - k0 := ⟨_, rfl⟩
        have N2 := zA hn2; have hcut : ∀ W : World, (Instr.slice 22 (.slice (some ad) l.length c) (some (.int .i64 ((m + 1 : Nat) : Int))) none none).run Tryz.prog W = .ok (.slice (some bd) n2 (c - k0)) W := fun W => by
         have h9 := hcut0 W; have hne : ¬ c = m + 1 := by have := L.out; omega
         rw [Int.toNat_natCast, if_neg hne, Option.map_some, show ad.add ((m + 1) * 1) = bd by rw [hbd, hk0, AD.out, add_at, Nat.zero_add, Nat.mul_one]] at h9; rw [h9, hn2, hk0]
        have hcut2 : ∀ W : World, (Instr.slice 22 (.slice (some ad) l.length c) (some (.int .i64 ((m : Int) + 1))) none none).run Tryz.prog W = .ok (.slice (some bd) n2 (c - k0)) W := fun W => by
         have h9 := hcut W; rw [show ((m + 1 : Nat) : Int) = (m : Int) + 1 by omega] at h9; exact h9
        have hn2b : n2 ≤ l.length := by omega
        clear hcut0 hi0 hz0 hsz0 hbd hn2 hcap; go_wp2; clear hcut hcut2; clear hd hdi; go_loopg [5, 7] n2 (fun gg s5 s7 wq => ∃ (ii jj : Nat) (zs : List (List Int × Nat)), 1 ≤ jj ∧ jj ≤ n2 ∧ n2 - jj ≤ gg ∧ s5 = .int .i64 ii ∧ s7 = .int .i64 jj ∧ Aside0 (CmpI l zs ii (k0 + jj)) ∧ Aside0 (Below w0.heap.size w0 wq) ∧ Aside0 ((Kd.tag f (Kd.slice 3 (Kd.int .i64))).R 23 wq w0.heap.size ok (.slice (some ⟨ga, 0, none⟩) l.length c) zs))
        case atStart => exact ⟨k0, 1, _, Nat.le_refl _, zz18 N2 L, zz1l, by rw [K0.out]; go_num, rfl, CI, HB, HR⟩
        case round =>
         clear HB HR CI; obtain ⟨ii, jj, zs, hj1, hjj, hg2, rfl, rfl, CI, HB, HR⟩ := hrel; have hzl : zs.length = l.length := CI.out.1; have hii : ii + 1 ≤ k0 + jj := CI.out.2.1; by_cases hlt2 : jj < n2
         · obtain ⟨q, rfl⟩ : ∃ q, jj = q + 1 := ⟨jj - 1, zz1l⟩
           have hd2 : decide (q + 1 < n2) = true := decide_eq_true hlt2; have hd2i : decide ((q : Int) + 1 < (n2 : Int)) = true := decide_eq_true zz1l; have hp1 : k0 + (q + 1) < l.length := by have := N2.out; omega
           have hp2 : k0 + q < l.length := by omega
           have Z1 := cmpI_at CI.out (k0 + (q + 1)) zz1l hp1; have Z2 := cmpI_at CI.out (k0 + q) zz1l hp2; obtain ⟨a1, hx1, ⟨v1, hcs1, hRr1⟩, _, _⟩ := R_one rfl HR.out _ _ Z1; obtain ⟨a2, hx2, ⟨v2, hcs2, hRr2⟩, _, _⟩ := R_one rfl HR.out _ _ Z2; injection hcs1 with e1 _; injection hcs2 with e2 _; obtain ⟨A1, c1, e3, hl1, hi1⟩ := Kd.R_reads hRr1; obtain ⟨A2, c2, e4, hl2, hi2⟩ := Kd.R_reads hRr2; rw [e1, e3] at hx1; rw [e2, e4] at hx2; have HX1 := zA (show wr.cell? ⟨ga, k0 + (q + 1), none⟩ = some (.slice A1 (l.getD (k0 + (q + 1)) []).length c1) from hx1); have HX2 := zA (show wr.cell? ⟨ga, k0 + q, none⟩ = some (.slice A2 (l.getD (k0 + q) []).length c2) from hx2); have HI1 := zA (show Kd.C (Kd.int .i64) wr A1 (l.getD (k0 + (q + 1)) []).length (l.getD (k0 + (q + 1)) []) from hi1); have HI2 := zA (show Kd.C (Kd.int .i64) wr A2 (l.getD (k0 + q) []).length (l.getD (k0 + q) []) from hi2); have HL1 := zA (show (l.getD (k0 + (q + 1)) []).length ≤ c1 from hl1); have HL2 := zA (show (l.getD (k0 + q) []).length ≤ c2 from hl2); have SK := zA fun h => cmpI_skip CI.out hp1 h
           have KP := zA fun h => cmpI_keep CI.out hp1 h
           have L2 := zA hlt2; have ZZ1 := zA Z1; clear hx1 hx2 hRr1 hRr2 hi1 hi2 hl1 hl2 e1 e2 e3 e4 Z1 Z2 v1 v2 CI; have hlt20 : q < n2 := by omega
           rw [show k0 + (q + 1) - 1 = k0 + q by omega] at SK KP; obtain ⟨y, hy⟩ : ∃ y, y = l.getD (k0 + (q + 1)) [] := ⟨_, rfl⟩
           obtain ⟨z, hz⟩ : ∃ z, z = l.getD (k0 + q) [] := ⟨_, rfl⟩
           rw [← hy] at HX1 HI1 HL1 SK KP ZZ1; rw [← hz] at HX2 HI2 HL2 SK KP; have q1 := Later.cell (w := wr) (a := ⟨bd.block, bd.off + (q + 1), none⟩) (v := .slice A1 y.length c1) (zz1a BD HX1); have q2 := Later.cell (w := wr) (a := bd.add q) (v := .slice A2 z.length c2) (by rw [BD.out, add_at]; exact HX2.out); have q3 := Later.cell (w := wr) (a := ⟨bd.block, bd.off + q, none⟩) (v := .slice A2 z.length c2) (zz1a BD HX2); have JE := zA (sliceEqR_eq y z HI1.out.2.1 (y.length + 1) (Nat.lt_succ_self _)); clear hy hz HX2
           go_upto_region 11 with fail
           by_cases heq : y = z
           · rw [decide_eq_true heq] at JE; have CI := zA (SK.out heq); clear heq SK KP; have EQ := fun (W : World) (hW : Below wr.heap.size wr W) => slices_Equal_int_int.calls (y.length + 1) A1 c1 y A2 c2 z true W (zS HI1.out hW) HL1.out (zS HI2.out hW) HL2.out JE.out
             refine wp_region_later zz1h zz1h ?_; (repeat (go_big_quiet_step (first | (go_at_fn 85; with_reducible exact Later.callD (EQ _ (Later.below _)))))); refine wpQuiet_nil ?_; intro w4_ hw4; obtain ⟨⟨w4, hb4⟩, hw4⟩ := hw4; subst hw4; (try dsimp only); have HB4 := zA (zG HB.out hb4); have HR4 := zA (Kd.R_below HR.out hb4); clear hb4 EQ q1 q2 q3 HR HB HI1 HI2 HL1 HL2 JE HX1 ZZ1; go_wp2
             go_roundg (n2 - (q + 1 + 1))
             case measure => have := L2.out; omega
             case rel => exact ⟨ii, q + 1 + 1, zs, zz1l, zz1b L2, zz1l, zz1j, zz1j, CI, HB4, HR4⟩
           · rw [decide_eq_false heq] at JE; have CI := zA (KP.out heq); clear heq SK KP; have EQ := fun (W : World) (hW : Below wr.heap.size wr W) => slices_Equal_int_int.calls (y.length + 1) A1 c1 y A2 c2 z false W (zS HI1.out hW) HL1.out (zS HI2.out hW) HL2.out JE.out
             refine wp_region_later zz1h zz1h ?_; (repeat (go_big_quiet_step (first | (go_at_fn 85; with_reducible exact Later.callD (EQ _ (Later.below _)))))); refine wpQuiet_nil ?_; intro w4_ hw4; obtain ⟨⟨w4, hb4⟩, hw4⟩ := hw4; subst hw4; (try dsimp only); have HB4 := zA (zG HB.out hb4); have HR4 := zA (Kd.R_below HR.out hb4); have hx4 := (hb4.cell (World.block_lt_of_cell? wr _ HX1.out)).trans HX1.out; have hiz : ii < zs.length := by omega
             obtain ⟨p0, hp0, _, hpf, _⟩ := R_one rfl HR4.out ii _ (List.getElem?_eq_getElem hiz); have hy1 : w4_.cell? ⟨bd.block, bd.off + (q + 1), none⟩ = some (.slice A1 y.length c1) := by rw [BD.out]; exact hx4
             have hy2 : w4_.cell? (ad.add ii) = some p0 := by rw [AD.out, add_at, Nat.zero_add]; exact hp0
             have hy3 : w4_.frozen? (ad.add ii) = false := by rw [AD.out, add_at, Nat.zero_add]; exact hpf
             have hilt : ii < l.length := by omega
             have HRC := zA (R_copy1 rfl HR4.out ii (k0 + (q + 1)) hiz _ ZZ1.out hx4); have HBC := zA (show Below w0.heap.size w0 (w4_.setCell (ad.add ii) (.slice A1 y.length c1)) by rw [AD.out, add_at, Nat.zero_add]; exact zE HB4.out GE.out); have EQW := zA (show w4_.setCell (ad.add ii) (.slice A1 y.length c1) = w4_.setCell ⟨ga, ii, none⟩ (.slice A1 y.length c1) by rw [AD.out, add_at, Nat.zero_add]); clear hb4 EQ q1 q2 q3 HR HB HI1 HI2 HL1 HL2 JE HX1 ZZ1 hp0 hpf hx4 HR4 HB4; go_wp2
             go_roundg (n2 - (q + 1 + 1))
             case measure => have := L2.out; omega
             case rel => exact ⟨ii + 1, q + 1 + 1, _, zz1l, zz1b L2, zz1l, zz1j, zz1j, CI, HBC, ⟨zz1a EQW HRC⟩⟩
         · have hd2 : decide (jj < n2) = false := decide_eq_false hlt2; obtain ⟨E1, E2⟩ := cmpI_end CI.out (show ¬ k0 + jj < l.length by have := N2.out; omega); have hin : ii ≤ l.length := by have := CI.out.2.2.1; omega
           have hcap := HCAP.out; have HH := R_head HR.out ii zz1l; obtain ⟨i0, hi0, hz0, hsz0, _⟩ := info_parts info23; have hcut0 := cut_from (P := Tryz.prog) 22 23 .i64 Tryz.underlying22 hi0 1 hsz0 (some ad) l.length c ii zz1l zz1l; have hcut1 := cut_to (P := Tryz.prog) 22 23 .i64 Tryz.underlying22 hi0 (some ad) l.length c ii zz1l zz1l hcap; rw [Int.toNat_natCast] at hcut0 hcut1; obtain ⟨A9, hA9⟩ : ∃ A9 : Option Addr, A9 = (if c = ii then some ad else (some ad).map (·.add (ii * 1))) := ⟨_, rfl⟩
           have hcut : ∀ W : World, (Instr.slice 22 (.slice (some ad) l.length c) (some (.int .i64 ii)) none none).run Tryz.prog W = .ok (.slice A9 (l.length - ii) (c - ii)) W := fun W => by rw [hcut0 W, hA9]
           have hclr : ∃ V : World, (∀ ty, (Builtin.clear_ #[22] ty #[.slice A9 (l.length - ii) (c - ii)]).run Tryz.prog wr = .ok (.tuple #[]) V) ∧ Below w0.heap.size w0 V ∧ (Kd.tag f (Kd.slice 3 (Kd.int .i64))).R 23 V w0.heap.size ok (.slice (some ⟨ga, 0, none⟩) ii c) (zs.take ii) := by
            by_cases h0 : l.length - ii = 0
            · exact ⟨wr, fun ty => by rw [h0]; cases A9 <;> simp [Builtin.clear_], HB.out, HH⟩
            · have hA9' : A9 = some ⟨ga, ii, none⟩ := by rw [hA9, if_neg zz1l, AD.out, Option.map_some, add_at, Nat.zero_add, Nat.mul_one]
              subst hA9'; obtain ⟨hok, inner, ⟨hlen, hrow⟩, hr1, hr2⟩ := HR.out; rcases hrow with ⟨hv, _⟩ | ⟨g', cap', cur, hv, hbg, hh, hnc, hcm, hcs, ht⟩
              · cases hv
              injection hv with ha0 hn0 hc0; injection ha0 with ha0; injection ha0 with hg0; subst hg0; subst hc0; have hsz2 : (Kd.tag f (Kd.slice 3 (Kd.int .i64))).sz = 1 := rfl; have hzc : ∀ W : World, (zeroValue 23).run Tryz.prog W = .ok (.slice none 0 0) W := fun W => by simp [zeroValue, typeInfo, hi0, hz0]
              have hst := clear_one (P := Tryz.prog) wr 22 23 ga ii (l.length - ii) (c - ii) Tryz.underlying22 hzc zz1l (fun j hj => by rw [zK hh]; simp; rw [hcs, hsz2]; omega) (fun j hj => zL hh _); have hgc := grown_cells1 (w := wr) (g := ga) ii (zc1 (l.length - ii)); exact ⟨_, hst, below_grownBy HB.out hgc (fun k hk => by injection hk with hk; rw [← hk]; exact GE.out), R_tail HH ii (by rw [List.length_take, hsz2]; omega) _ (by rw [zc1_len, hsz2]; omega)⟩
           obtain ⟨V, hclr, hBV, hRV⟩ := hclr; have FIN := zA (show Kd.S (Kd.slice 3 (Kd.int .i64)) 23 V w0.heap.size ok (.slice (some ad) ii c) (dedupA l) by rw [AD.out, ← E1]; exact S_part hRV E2); have HV := zA hBV; clear hRV hBV E1 E2 hcut0 hA9 HH HR HB CI hlt2 hin hzl hcap hi0 hz0 hsz0 hii; go_wp2; go_ret; exact ⟨_, rfl, FIN.out, HV.out⟩
      · rw [decide_eq_false heq] at JE; have NE2 := zA (show ∀ j, 1 ≤ j → j < m + 1 + 1 → l.getD j [] ≠ l.getD (j - 1) [] from by
         intro j a b; by_cases ej : j = m + 1
         · subst ej; rw [show m + 1 - 1 = m by omega, ← YQ.out, ← ZQ.out]; exact heq
         · exact NE.out j a zz1l)
        clear heq; have EQ := fun (W : World) (hW : Below wr.heap.size wr W) => slices_Equal_int_int.calls (y.length + 1) A1 c1 y A2 c2 z false W (zS HI1.out hW) HL1.out (zS HI2.out hW) HL2.out JE.out
        refine wp_region_later zz1h zz1h ?_; (repeat (go_big_quiet_step (first | (go_at_fn 85; with_reducible exact Later.callD (EQ _ (Later.below _)))))); refine wpQuiet_nil ?_; intro w4_ hw4; obtain ⟨⟨w4, hb4⟩, hw4⟩ := hw4; subst hw4; (try dsimp only); have HB4 := zA (zG HB.out hb4); have HR4 := zA (Kd.R_below HR.out hb4); have HS4 := zA (Kd.S_below HS.out hb4); clear hb4 EQ q1 q2 q3 HR HB HS HI1 HI2 HL1 HL2 JE NE YQ ZQ; go_wp2
        go_roundg (l.length - (m + 1 + 1))
        case measure => have := L.out; omega
        case rel => exact ⟨m + 1 + 1, zz1l, zz1b L, zz1l, zz1j, NE2, HB4, HS4, HR4⟩
    · have hd : decide (kk < l.length) = false := decide_eq_false hlt; have FIN := zA (show dedupA l = l from dedupA_self fun j a b => NE.out j a zz1l); clear hlt; go_wp2; go_ret; exact ⟨_, rfl, zz1a FIN HS, HB.out⟩
def PredL (g : Nat) (lb : Array Value) (p : List Int → Bool) (w : World) : Prop :=
 ∀ (W : World) (x : List Int) (A : Option Addr) (c : Nat), Below w.heap.size w W → x.length ≤ c → Kd.C (Kd.int .i64) W A x.length x →
  Calls Tryz.prog g (#[.slice A x.length c] ++ lb) W fun e w' => e = .returned (.bool (p x)) ∧ Below W.heap.size W w'
set_option maxHeartbeats 2000000 in
set_option maxRecDepth 100000 in
theorem indexFunc_row (g : Nat) (lb : Array Value) (eg : ∀ args w, (callFunc g args).run Tryz.prog w = .ok (.enter g args) w) (p : List Int → Bool) (A : Option Addr) (c : Nat) (l : List (List Int)) (w : World)
 (hr : Kd.C (Kd.slice 3 (Kd.int .i64)) w A l.length l) (hc : l.length ≤ c) (hp : PredL g lb p w) :
 Calls Tryz.prog 69 #[.slice A l.length c, .func (.func g) #[] lb] w fun e w' => e = .returned (.int .i64 (idxF p l)) ∧ Below w.heap.size w w' := by
 have hmax : l.length ≤ 9223372036854775807 := hr.2.1; go_enter Tryz.func69, Tryz.ntmps69; go_wp2; go_loopg [5, 8] l.length (fun gg _ s8 wr => ∃ kk : Nat, kk ≤ l.length ∧ l.length - kk ≤ gg ∧ s8 = .int .i64 kk ∧ Aside0 (Below w.heap.size w wr) ∧ Aside0 (∀ j, j < kk → p (l.getD j []) = false))
 case atStart => exact ⟨0, Nat.zero_le _, zz1l, rfl, ⟨Below.refl _ w⟩, ⟨fun j hj => absurd hj (Nat.not_lt_zero _)⟩⟩
 case round =>
  obtain ⟨kk, hkk, hg, rfl, BW, A0⟩ := hrel; by_cases hlt : kk < l.length
  · obtain ⟨ad, A1, c1, e, hx0, hl1, hi1⟩ := at_L1 (zS hr BW.out) (kk : Int) zz1l zz1l; subst e; have hx2 : wr.cell? (ad.add kk) = some (.slice A1 (rd_L1 l kk).length c1) := by simpa using hx0
    have hcall := hp wr (rd_L1 l kk) A1 c1 BW.out hl1 hi1; have hB := zA (show l.getD kk [] = rd_L1 l kk from rfl); have L := zA hlt; have hd : decide (kk < l.length) = true := decide_eq_true hlt; clear hx0 hp hr hl1 hi1; generalize rd_L1 l kk = y at hcall hB hx2; cases hq : p y with
    | true =>
     rw [hq] at hcall; have Q := zA hq; clear hq; go_wp2_with fail; refine hcall.mono ?_; rintro e w' ⟨rfl, hb'⟩; clear hcall hd eg hlt; go_wp2; go_ret; refine ⟨?_, zG BW.out hb'⟩; rw [idxF_hit p l [] kk L.out (zz1a hB Q) A0.out]; rfl
    | false =>
     rw [hq] at hcall; have Q := zA hq; clear hq; go_wp2_with fail; refine hcall.mono ?_; rintro e w' ⟨rfl, hb'⟩; clear hcall hd eg; go_wp2
     go_roundg (l.length - (kk + 1))
     case measure => have := L.out; omega
     case rel =>
      refine ⟨kk + 1, zz1b L, zz1l, zz1j, ⟨zG BW.out hb'⟩, ⟨fun j hj => ?_⟩⟩; by_cases ej : j = kk
      · subst ej; rw [hB.out]; exact Q.out
      · exact A0.out j zz1l
  · have hd : decide (kk < l.length) = false := decide_eq_false hlt; have L := zA (show kk = l.length by omega); clear hp hr hlt; go_wp2; go_ret; refine ⟨?_, BW.out⟩; rw [idxF_miss p l [] (by have := A0.out; rw [L.out] at this; exact this)]; rfl
set_option maxHeartbeats 2000000 in
theorem containsFunc_row (g : Nat) (lb : Array Value) (eg : ∀ args w, (callFunc g args).run Tryz.prog w = .ok (.enter g args) w) (p : List Int → Bool) (A : Option Addr) (c : Nat) (l : List (List Int)) (w : World)
 (hr : Kd.C (Kd.slice 3 (Kd.int .i64)) w A l.length l) (hc : l.length ≤ c) (hp : PredL g lb p w) :
 Calls Tryz.prog 50 #[.slice A l.length c, .func (.func g) #[] lb] w fun e w' => e = .returned (.bool (l.any p)) ∧ Below w.heap.size w w' := by
 have H := indexFunc_row g lb eg p A c l w hr hc hp; have hz := zA (idxF_any p l); generalize idxF p l = i at H hz; go_enter Tryz.func50, Tryz.ntmps50; go_wp2_with (go_at_call 69; refine H.mono ?_; rintro e w' ⟨rfl, hb'⟩); go_ret; exact ⟨by rw [← hz.out]; rfl, hb'⟩
end Go.Proofs.YtkocahlifffgjaaGreat.P
namespace Go.Proofs.YtkocahlifffgjaaGreat.P
open Go.RowKit Go.Proofs.YtkocahlifffgjaaGreatW.PrintWords Go.Proofs.YtkocahlifffgjaaGreatW.PrintLast Go.Proofs.YtkocahlifffgjaaGreatW.PrintMore
open Go.Maps (Keyed)
set_option linter.unusedVariables false
set_option linter.unusedSimpArgs false
def asIs (v : Value) : Option (DataW Value × List MemPlace) := some (.held v, [])
section
variable {P : Program} {w : World} {ops : Array Oper} {rest : List Oper} {o : Oper} {a : Act} {Q : Exit → Act → World → Prop}
theorem made_event (hg : o.guard = none) (t k : TypeId) (hop : o.op = Op.makeMap t none)
 (hK : ∀ b, b = w.heap.size → ∀ w', w'.ownsMap P k asIs b 0 (.map []) → w.grownBy w' none → wpList P ops Q rest (a.put o.dst (.map (some b))) w') : wpList P ops Q (o :: rest) a w := by
 refine wpList_plain hg fun K' hK' => ?_
 have hmm := @run_makeMap P; unfold Oper.wp; simp [execOp, hop, hmm, Result.andThen]; exact hK' _ _ (hK _ rfl _ (World.ownsMap_made w P k asIs) (World.grownBy_alloc w _ none))
theorem insert_event (hg : o.guard = none) (m x v : Operand) (t : TypeId) (hop : o.op = Op.insert t m x v)
 (k e : TypeId) (K : Keyed P k) (ht : P.underlying t = some (.map k e)) (b n : Nat) (D : DataW Value)
 (hm : a.eval m = .map (some b)) (hown : w.ownsMap P k asIs b n D) (hn : n < maxLen) (key val : Value) (kl : Lit) (hx : a.eval x = key) (hv : a.eval v = val) (hkey : keyOf P k key = some kl)
 (hK : ∀ w', w'.ownsMap P k asIs b (n + 1) (D.put kl (.held val)) → w.grownBy w' (some b) → wpList P ops Q rest (a.put o.dst undef) w') :
 wpList P ops Q (o :: rest) a w := by
 refine wpList_plain hg fun K' hK' => ?_
 obtain ⟨w', hrun, r1, r2⟩ := hown.update K ht hn hkey (val := val) (d := .held val) (ps := []) rfl; unfold Oper.wp; simp [execOp, hop, hm, hx, hv, hrun, Result.andThen]; exact hK' _ _ (hK w' r1 r2)
end
def two (v3 v2 : Value) : DataW Value := ((DataW.map []).put (.int .i64 3) (.held v3)).put (.int .i64 2) (.held v2)
theorem two_map0 : Maps.IsMap (DataW.map [] : DataW Value) := ⟨[], rfl⟩
theorem two_keys (v3 v2 : Value) (kl : Lit) (h : Maps.has (two v3 v2) kl = true) : kl = .int .i64 3 ∨ kl = .int .i64 2 := by
 by_cases h2 : kl = .int .i64 2
 · exact .inr h2
 · by_cases h3 : kl = .int .i64 3
   · exact .inl h3
   · unfold two at h; rw [Maps.has_put_other h2, Maps.has_put_other h3] at h; cases h
theorem two_at3 (v3 v2 : Value) (z : DataW Value) : (two v3 v2).atKey (.int .i64 3) z = .held v3 := by
 unfold two; rw [Maps.atKey_put_other (fun h => by cases h), Maps.atKey_put_same (k := .int .i64 3) two_map0 trivial]
theorem two_at2 (v3 v2 : Value) (z : DataW Value) : (two v3 v2).atKey (.int .i64 2) z = .held v2 := by
 exact Maps.atKey_put_same (k := .int .i64 2) ⟨_, rfl⟩ trivial _ _
theorem blk_grownM {w w' : World} {row : Option Nat} {g : Nat} {o : Obj} (h : w.heap[g]? = some o) (hg : w.grownBy w' row) (hne : row ≠ some g) : w'.heap[g]? = some o := by
 have hlt : g < w.heap.size := blk_lt h; rw [hg.block g hlt (fun e => hne e.symm)]; exact h
theorem grown_of_below {w w' : World} (h : Below w.heap.size w w') : w.grownBy w' none := ⟨h.os, h.tape, h.output, h.size, fun i hi _ => h.block i hi⟩
theorem below_of_grown {w w' : World} (h : w.grownBy w' none) : Below w.heap.size w w' := (Below.refl _ w).grown h (Nat.le_refl _) (fun k hk => by cases hk)
end Go.Proofs.YtkocahlifffgjaaGreat.P
