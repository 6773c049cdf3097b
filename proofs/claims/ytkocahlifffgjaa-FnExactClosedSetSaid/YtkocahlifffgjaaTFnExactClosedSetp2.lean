/- A part of the proofs of some laws of this seat (words of the print and texts of this session, without what these laws do not use). -/
import Derived.Test.YtkocahlifffgjaaTFnExactClosedSetp1
import Derived.Test.YtkocahlifffgjaaProg
import Derived.Shelf.SlLaysE
import Derived.Shelf.SlLaysF
import Derived.Shelf.SlLaysM
import Derived.Test.YtkocahlifffgjaaTFnExactClosedSetp0
import Derived.Shelf.SortM.Plain
import Derived.Shelf.SortM.SortNone
import Derived.Sort.OwnSortedInts
import Derived.Shelf.SlicesE.Compact
import Derived.Lib.SliceRun
import Derived.Shelf.SlSortCmp.NoneTotal
import Derived.BigQuiet
namespace Go.Proofs.Ytkocahlifffgjaa.P
open Go.RowKit Go.Proofs.YtkocahlifffgjaaW.PrintWords
set_option linter.unusedVariables false
set_option linter.unusedSimpArgs false
theorem rise_ext {α : Type} (lt : α → α → Prop) (irr : ∀ x, ¬ lt x x) (tr : ∀ x y z, lt x y → lt y z → lt x z) : ∀ {a b : List α}, a.Pairwise lt → b.Pairwise lt → (∀ x, x ∈ a ↔ x ∈ b) → a = b
 | [], [], _, _, _ => rfl
 | [], y :: b, _, _, h => absurd ((h y).2 List.mem_cons_self) (by simp)
 | x :: a, [], _, _, h => absurd ((h x).1 List.mem_cons_self) (by simp)
 | x :: a, y :: b, ha, hb, h => by
  obtain ⟨ha1, ha2⟩ := List.pairwise_cons.1 ha; obtain ⟨hb1, hb2⟩ := List.pairwise_cons.1 hb; have e : x = y := by
   rcases List.mem_cons.1 ((h x).1 List.mem_cons_self) with h1 | h1
   · exact h1
   · rcases List.mem_cons.1 ((h y).2 List.mem_cons_self) with h2 | h2
     · exact h2.symm
     · exact absurd (tr _ _ _ (ha1 y h2) (hb1 x h1)) (irr x)
  subst e; rw [rise_ext lt irr tr ha2 hb2 fun z => ⟨fun hz => ?_, fun hz => ?_⟩]
  · rcases List.mem_cons.1 ((h z).1 (List.mem_cons_of_mem _ hz)) with h1 | h1
    · subst h1; exact absurd (ha1 z hz) (irr z)
    · exact h1
  · rcases List.mem_cons.1 ((h z).2 (List.mem_cons_of_mem _ hz)) with h1 | h1
    · subst h1; exact absurd (hb1 z hz) (irr z)
    · exact h1
def UpI (l : List Int) : Prop := l.Pairwise (· < ·)
theorem upI_ext {a b : List Int} (ha : UpI a) (hb : UpI b) (h : ∀ x, x ∈ a ↔ x ∈ b) : a = b := rise_ext (· < ·) (fun x h => by omega) (fun x y z h1 h2 => by omega) ha hb h
def putI : List Int → Int → List Int
 | [], n => [n]
 | a :: l, n => if a < n then a :: putI l n else if a = n then a :: l else n :: a :: l
theorem mem_putI (l : List Int) (n x : Int) : x ∈ putI l n ↔ x = n ∨ x ∈ l := by
 induction l with
 | nil => simp [putI]
 | cons a l ih =>
  simp only [putI]; by_cases h1 : a < n
  · rw [if_pos h1, List.mem_cons, ih, List.mem_cons]; exact ⟨fun h => h.elim (fun h => .inr (.inl h)) (fun h => h.elim .inl (fun h => .inr (.inr h))), fun h => h.elim (fun h => .inr (.inl h)) (fun h => h.elim .inl (fun h => .inr (.inr h)))⟩
  · rw [if_neg h1]; by_cases h2 : a = n
    · rw [if_pos h2]; subst h2; exact ⟨.inr, fun h => h.elim (fun h => by subst h; exact List.mem_cons_self) id⟩
    · rw [if_neg h2, List.mem_cons]
theorem upI_put (l : List Int) (n : Int) (h : UpI l) : UpI (putI l n) := by
 induction l with
 | nil => exact List.pairwise_singleton _ _
 | cons a l ih =>
  obtain ⟨h1, h2⟩ := List.pairwise_cons.1 h; simp only [putI]; by_cases h3 : a < n
  · rw [if_pos h3]; refine List.pairwise_cons.2 ⟨fun x hx => ?_, ih h2⟩; rcases (mem_putI l n x).1 hx with h4 | h4
    · omega
    · exact h1 x h4
  · rw [if_neg h3]; by_cases h4 : a = n
    · rw [if_pos h4]; exact h
    · rw [if_neg h4]; refine List.pairwise_cons.2 ⟨fun x hx => ?_, h⟩; rcases List.mem_cons.1 hx with h5 | h5
      · omega
      · have := h1 x h5; omega
def sortI (l : List Int) : List Int := l.foldl putI []
theorem foldI_ok (l : List Int) : ∀ a, UpI a → UpI (l.foldl putI a) ∧ ∀ x, x ∈ l.foldl putI a ↔ x ∈ l ∨ x ∈ a := by
 induction l with
 | nil => intro a h; exact ⟨h, fun x => by simp⟩
 | cons b l ih =>
  intro a h; obtain ⟨h1, h2⟩ := ih (putI a b) (upI_put a b h); refine ⟨h1, fun x => (h2 x).trans ?_⟩; rw [mem_putI, List.mem_cons]; exact ⟨fun h => h.elim (fun h => .inl (.inr h)) (fun h => h.elim (fun h => .inl (.inl h)) .inr), fun h => h.elim (fun h => h.elim (fun h => .inr (.inl h)) .inl) (fun h => .inr (.inr h))⟩
theorem sortI_up (l) : UpI (sortI l) := (foldI_ok l [] List.Pairwise.nil).1
theorem mem_sortI (l x) : x ∈ sortI l ↔ x ∈ l := ((foldI_ok l [] List.Pairwise.nil).2 x).trans (by simp)
theorem upI_of {a l : List Int} (ha : UpI a) (h : ∀ x, x ∈ a ↔ x ∈ l) : a = sortI l := upI_ext ha (sortI_up l) fun x => (h x).trans (mem_sortI l x).symm
theorem upI_len (l : List Int) : ∀ lo hi : Int, UpI l → (∀ x, x ∈ l → lo ≤ x ∧ x < hi) → lo ≤ hi → (l.length : Int) ≤ hi - lo := by
 induction l with
 | nil => intro lo hi _ _ h; simp; omega
 | cons a l ih =>
  intro lo hi h hb hle; obtain ⟨h1, h2⟩ := List.pairwise_cons.1 h; have ha := hb a List.mem_cons_self; have := ih (a + 1) hi h2 (fun x hx => ⟨by have := h1 x hx; omega, (hb x (List.mem_cons_of_mem _ hx)).2⟩) (by omega); simp only [List.length_cons]; omega
inductive UpR (ps : List (List Int)) (S : Int → Prop) : Int → Prop
 | base {x : Int} : S x → UpR ps S x
 | step {p : List Int} : p ∈ ps → UpR ps S (rd p 1) → UpR ps S (rd p 0)
theorem UpR.least {ps : List (List Int)} {S T : Int → Prop} (h : ∀ x, S x → T x) (hc : ∀ p, p ∈ ps → T (rd p 1) → T (rd p 0)) {x : Int} (hx : UpR ps S x) : T x := by
 induction hx with
 | base h1 => exact h _ h1
 | step h1 _ ih => exact hc _ h1 ih
theorem UpR.mono {ps : List (List Int)} {S T : Int → Prop} (h : ∀ x, S x → T x) {x : Int} (hx : UpR ps S x) : UpR ps T x := hx.least (fun x hx => .base (h x hx)) (fun p hp h => .step hp h)
theorem UpR.one {ps : List (List Int)} {S : Int → Prop} {x : Int} : UpR ps S x ↔ ∃ y, S y ∧ UpR ps (· = y) x :=
 ⟨fun h => h.least (T := fun x => ∃ y, S y ∧ UpR ps (· = y) x) (fun x hx => ⟨x, hx, .base rfl⟩) (fun p hp ⟨y, hy, h⟩ => ⟨y, hy, .step hp h⟩), fun ⟨y, hy, h⟩ => h.mono fun x hx => by rw [hx]; exact hy⟩
theorem cmpL_self : ∀ l, cmpL l l = 0
 | [] => rfl
 | a :: l => by simp only [cmpL]; rw [if_neg (by omega), if_neg (by omega)]; exact cmpL_self l
theorem cmpL_eq : ∀ l m, cmpL l m = 0 → l = m
 | [], [], _ => rfl
 | [], _ :: _, h => absurd h (by simp [cmpL])
 | _ :: _, [], h => absurd h (by simp [cmpL])
 | a :: l, b :: m, h => by
  simp only [cmpL] at h; by_cases h1 : a < b
  · rw [if_pos h1] at h; exact absurd h (by decide)
  · by_cases h2 : b < a
    · rw [if_neg h1, if_pos h2] at h; exact absurd h (by decide)
    · rw [if_neg h1, if_neg h2] at h; rw [cmpL_eq l m h, show a = b by omega]
theorem cmpL_neg : ∀ l m, cmpL m l = - cmpL l m
 | [], [] => rfl
 | [], _ :: _ => rfl
 | _ :: _, [] => rfl
 | a :: l, b :: m => by
  simp only [cmpL]; by_cases h1 : a < b
  · rw [if_neg (by omega), if_pos h1, if_pos h1]; rfl
  · by_cases h2 : b < a
    · rw [if_pos h2, if_neg h1, if_pos h2]
    · rw [if_neg h2, if_neg h1, if_neg h1, if_neg h2, cmpL_neg l m]
theorem cmpL_trans : ∀ (a b c : List Int), cmpL a b < 0 → cmpL b c < 0 → cmpL a c < 0
 | [], [], _, h, _ => absurd h (by decide)
 | [], _ :: _, [], _, h => absurd h (by simp [cmpL])
 | [], _ :: _, _ :: _, _, _ => by simp [cmpL]
 | _ :: _, [], _, h, _ => absurd h (by simp [cmpL])
 | _ :: _, _ :: _, [], _, h => absurd h (by simp [cmpL])
 | x :: a, y :: b, z :: c, h1, h2 => by
  simp only [cmpL] at h1 h2 ⊢; by_cases xy : x < y
  · by_cases zy : z < y
    · rw [if_neg (by omega), if_pos zy] at h2; exact absurd h2 (by decide)
    · rw [if_pos (show x < z by omega)]; decide
  · by_cases yx : y < x
    · rw [if_neg xy, if_pos yx] at h1; exact absurd h1 (by decide)
    · have e : x = y := by omega
      subst e; rw [if_neg xy, if_neg yx] at h1; by_cases xz : x < z
      · rw [if_pos xz]; decide
      · rw [if_neg xz] at h2 ⊢; by_cases zx : z < x
        · rw [if_pos zx] at h2; exact absurd h2 (by decide)
        · rw [if_neg zx] at h2 ⊢; exact cmpL_trans a b c h1 h2
def UpL (l : List (List Int)) : Prop := l.Pairwise (fun a b => cmpL a b < 0)
theorem upL_ext {a b : List (List Int)} (ha : UpL a) (hb : UpL b) (h : ∀ x, x ∈ a ↔ x ∈ b) : a = b := rise_ext _ (fun x h => by rw [cmpL_self] at h; omega) (fun x y z h1 h2 => cmpL_trans x y z h1 h2) ha hb h
def putL : List (List Int) → List Int → List (List Int)
 | [], n => [n]
 | a :: l, n => if cmpL a n < 0 then a :: putL l n else if a = n then a :: l else n :: a :: l
theorem mem_putL (l : List (List Int)) (n x : List Int) : x ∈ putL l n ↔ x = n ∨ x ∈ l := by
 induction l with
 | nil => simp [putL]
 | cons a l ih =>
  simp only [putL]; by_cases h1 : cmpL a n < 0
  · rw [if_pos h1, List.mem_cons, ih, List.mem_cons]; exact ⟨fun h => h.elim (fun h => .inr (.inl h)) (fun h => h.elim .inl (fun h => .inr (.inr h))), fun h => h.elim (fun h => .inr (.inl h)) (fun h => h.elim .inl (fun h => .inr (.inr h)))⟩
  · rw [if_neg h1]; by_cases h2 : a = n
    · rw [if_pos h2]; subst h2; exact ⟨.inr, fun h => h.elim (fun h => by subst h; exact List.mem_cons_self) id⟩
    · rw [if_neg h2, List.mem_cons]
theorem cmpL_flip {a n : List Int} (h1 : ¬ cmpL a n < 0) (h2 : a ≠ n) : cmpL n a < 0 := by
 have h3 := cmpL_neg a n; have h4 : cmpL a n ≠ 0 := fun h => h2 (cmpL_eq a n h)
 omega
theorem upL_put (l : List (List Int)) (n : List Int) (h : UpL l) : UpL (putL l n) := by
 induction l with
 | nil => exact List.pairwise_singleton _ _
 | cons a l ih =>
  obtain ⟨h1, h2⟩ := List.pairwise_cons.1 h; simp only [putL]; by_cases h3 : cmpL a n < 0
  · rw [if_pos h3]; refine List.pairwise_cons.2 ⟨fun x hx => ?_, ih h2⟩; rcases (mem_putL l n x).1 hx with h4 | h4
    · rw [h4]; exact h3
    · exact h1 x h4
  · rw [if_neg h3]; by_cases h4 : a = n
    · rw [if_pos h4]; exact h
    · rw [if_neg h4]; have h6 := cmpL_flip h3 h4; refine List.pairwise_cons.2 ⟨fun x hx => ?_, h⟩; rcases List.mem_cons.1 hx with h5 | h5
      · rw [h5]; exact h6
      · exact cmpL_trans _ _ _ h6 (h1 x h5)
def sortL (l : List (List Int)) : List (List Int) := l.foldl putL []
theorem foldL_ok (l : List (List Int)) : ∀ a, UpL a → UpL (l.foldl putL a) ∧ ∀ x, x ∈ l.foldl putL a ↔ x ∈ l ∨ x ∈ a := by
 induction l with
 | nil => intro a h; exact ⟨h, fun x => by simp⟩
 | cons b l ih =>
  intro a h; obtain ⟨h1, h2⟩ := ih (putL a b) (upL_put a b h); refine ⟨h1, fun x => (h2 x).trans ?_⟩; rw [mem_putL, List.mem_cons]; exact ⟨fun h => h.elim (fun h => .inl (.inr h)) (fun h => h.elim (fun h => .inl (.inl h)) .inr), fun h => h.elim (fun h => h.elim (fun h => .inr (.inl h)) .inl) (fun h => .inr (.inr h))⟩
theorem sortL_up (l) : UpL (sortL l) := (foldL_ok l [] List.Pairwise.nil).1
theorem mem_sortL (l x) : x ∈ sortL l ↔ x ∈ l := ((foldL_ok l [] List.Pairwise.nil).2 x).trans (by simp)
theorem upL_of {a l : List (List Int)} (ha : UpL a) (h : ∀ x, x ∈ a ↔ x ∈ l) : a = sortL l := upL_ext ha (sortL_up l) fun x => (h x).trans (mem_sortL l x).symm
def setB (s : List Bool) : List Int := ((List.range s.length).filter fun i => s.getD i false).map fun i : Nat => (i : Int)
theorem mem_setB (s : List Bool) (x : Int) : x ∈ setB s ↔ (0 ≤ x ∧ x < s.length) ∧ s.getD x.toNat false = true := by
 unfold setB; rw [List.mem_map]; constructor
 · rintro ⟨i, hi, rfl⟩; rw [List.mem_filter, List.mem_range] at hi; exact ⟨⟨by omega, by omega⟩, by rw [Int.toNat_natCast]; exact hi.2⟩
 · rintro ⟨⟨h0, h1⟩, h⟩; exact ⟨x.toNat, by rw [List.mem_filter, List.mem_range]; exact ⟨by omega, h⟩, by omega⟩
theorem setB_up (s : List Bool) : UpI (setB s) := by
 unfold setB UpI; rw [List.pairwise_map]; exact (List.pairwise_lt_range.filter _).imp fun h => by omega
theorem setB_len (s : List Bool) : (setB s).length ≤ s.length := by
 unfold setB; rw [List.length_map]; exact Nat.le_trans (List.length_filter_le _ _) (by rw [List.length_range]; exact Nat.le_refl _)
theorem setB_of {s : List Bool} {a : List Int} (ha : UpI a) (h : ∀ x, x ∈ a ↔ (0 ≤ x ∧ x < s.length) ∧ s.getD x.toNat false = true) : a = setB s := upI_ext ha (setB_up s) fun x => (h x).trans (mem_setB s x).symm
theorem rd_in {l : List Int} {j : Nat} (hj : j < l.length) : rd l j ∈ l := by
 unfold rd; rw [Int.toNat_natCast, List.getD_eq_getElem?_getD, List.getElem?_eq_getElem hj]; exact List.getElem_mem hj
theorem in_rd {l : List Int} {x : Int} (h : x ∈ l) : ∃ j : Nat, j < l.length ∧ rd l j = x := by
 obtain ⟨j, hj, rfl⟩ := List.getElem_of_mem h; refine ⟨j, hj, ?_⟩; unfold rd; rw [Int.toNat_natCast, List.getD_eq_getElem?_getD, List.getElem?_eq_getElem hj]; rfl
theorem rd_drop1 {l : List Int} (j : Nat) : rd (l.drop 1) j = rd l ((j + 1 : Nat) : Int) := by
 unfold rd; rw [Int.toNat_natCast, Int.toNat_natCast, List.getD_eq_getElem?_getD, List.getD_eq_getElem?_getD, List.getElem?_drop, Nat.add_comm]
def RowIn (nons toks : Int) (l : List Int) : Prop := (0 ≤ rd l 0 ∧ rd l 0 < nons) ∧ ∀ j : Nat, 1 ≤ j → j < l.length → -toks ≤ rd l j ∧ rd l j < nons
structure OkB (nons toks : Int) (ps os : List (List Int)) (es : List Int) : Prop where
 n : 1 ≤ nons ∧ nons ≤ 40
 t : 1 ≤ toks ∧ toks ≤ 4
 e : ∀ x, x ∈ es → 0 ≤ x ∧ x < nons
 eu : UpI es
 p : ∀ x, x ∈ ps → x.length = 3 ∧ RowIn nons toks x
 o : ∀ x, x ∈ os → x.length = 2 ∧ RowIn nons toks x
theorem riseF_parts (lo hi : Int) : ∀ (p : Option Int) (l : List Int), riseF lo hi p l = true → (∀ x, x ∈ l → lo ≤ x ∧ x ≤ hi) ∧ UpI l ∧ ∀ y, p = some y → ∀ x, x ∈ l → y < x
 | _, [], _ => ⟨(fun _ h => by cases h), List.Pairwise.nil, (fun _ _ _ h => by cases h)⟩
 | p, x :: l, h => by
  simp only [riseF, Bool.and_eq_true, decide_eq_true_eq] at h; obtain ⟨h1, h2, h3⟩ := riseF_parts lo hi (some x) l h.2.2; refine ⟨fun z hz => (List.mem_cons.1 hz).elim (fun e => by rw [e]; exact h.1) (h1 z), List.pairwise_cons.2 ⟨h3 x rfl, h2⟩, fun y hy z hz => ?_⟩; subst hy; have h4 : y < x := by simpa using h.2.1
  rcases List.mem_cons.1 hz with e | e
  · rw [e]; exact h4
  · have := h3 x rfl z e; omega
theorem listsF_mem (nons toks many : Int) : ∀ (p : Option (List Int)) (l : List (List Int)), listsF nons toks many p l = true → ∀ x, x ∈ l → rowOk nons toks many x = true
 | _, [], _, _, h => by cases h
 | p, y :: l, h, x, hx => by
  simp only [listsF, Bool.and_eq_true] at h; rcases List.mem_cons.1 hx with e | e
  · rw [e]; exact h.1
  · exact listsF_mem nons toks many (some y) l h.2.2 x e
theorem rowOk_parts {nons toks many : Int} (hn : 1 ≤ nons ∧ nons ≤ 40) (ht : 1 ≤ toks ∧ toks ≤ 4) {x : List Int} (h : rowOk nons toks many x = true) : (x.length : Int) = many ∧ RowIn nons toks x := by
 have hw : wrap64 (nons - 1) = nons - 1 := w64 (by omega) (by omega); have hw2 : wrap64 (-toks) = -toks := w64 (by omega) (by omega); unfold rowOk at h; simp only [Bool.and_eq_true, decide_eq_true_eq, Bool.not_eq_true', List.any_eq_false] at h; obtain ⟨h1, h2, h3⟩ := h; rw [hw] at h2; refine ⟨h1, ⟨h2.1, by omega⟩, fun j hj1 hj2 => ?_⟩; have h4 := h3 (rd x j) (by
  have := rd_in (l := x.drop 1) (j := j - 1) (by rw [List.length_drop]; omega); rwa [rd_drop1, show j - 1 + 1 = j by omega] at this)
 unfold symB at h4; rw [hw, hw2] at h4; simp at h4; exact ⟨h4.1, by omega⟩
theorem goodB_ok {nons toks : Int} {ps os : List (List Int)} {es : List Int} {fs : List (List Int)} (h : goodB nons toks ps os es fs = true) : OkB nons toks ps os es := by
 unfold goodB at h; simp only [Bool.and_eq_true, decide_eq_true_eq] at h; obtain ⟨hn, ht, hr, _, _, hp, ho⟩ := h; have hw : wrap64 (nons - 1) = nons - 1 := w64 (by omega) (by omega); rw [hw] at hr; obtain ⟨r1, r2, _⟩ := riseF_parts _ _ _ _ hr; refine ⟨hn, ht, fun x hx => by have := r1 x hx; omega, r2, fun x hx => ?_, fun x hx => ?_⟩
 · obtain ⟨h1, h2⟩ := rowOk_parts hn ht (listsF_mem _ _ _ _ _ hp x hx); exact ⟨by omega, h2⟩
 · obtain ⟨h1, h2⟩ := rowOk_parts hn ht (listsF_mem _ _ _ _ _ ho x hx); exact ⟨by omega, h2⟩
inductive NulR (es : List Int) (rows : List (List Int)) : Int → Prop
 | base {x : Int} : x ∈ es → NulR es rows x
 | step {l : List Int} : l ∈ rows → (∀ j : Nat, 1 ≤ j → j < l.length → 0 ≤ rd l j) → (∀ j : Nat, 1 ≤ j → j < l.length → NulR es rows (rd l j)) → NulR es rows (rd l 0)
theorem NulR.least {es : List Int} {rows : List (List Int)} {T : Int → Prop} (h : ∀ x, x ∈ es → T x) (hc : ∀ l, l ∈ rows → (∀ j : Nat, 1 ≤ j → j < l.length → 0 ≤ rd l j ∧ T (rd l j)) → T (rd l 0)) {x : Int} (hx : NulR es rows x) : T x := by
 induction hx with
 | base h1 => exact h _ h1
 | step h1 h2 _ ih => exact hc _ h1 fun j a b => ⟨h2 j a b, ih j a b⟩
def cntN (s : List Bool) : Nat := s.count false
theorem cntN_set (s : List Bool) (i : Nat) (hi : i < s.length) (h : s.getD i false = false) : cntN (s.set i true) + 1 = cntN s := by
 unfold cntN
 induction s generalizing i with
 | nil => simp at hi
 | cons b s ih =>
  cases i with
  | zero =>
   have hb : b = false := by simpa using h
   subst hb; simp [List.count_cons]
  | succ i =>
   have := ih i (by simpa using hi) (by simpa using h); simp only [List.set_cons_succ, List.count_cons]; omega
def nulQ (s : List Bool) (x : Int) : Bool := decide (x < 0) || !s.getD x.toNat false
structure NulI (n : Nat) (es : List Int) (rows : List (List Int)) (s : List Bool) : Prop where
 len : s.length = n
 lo : ∀ x, x ∈ es → s.getD x.toNat false = true
 hi : ∀ i : Nat, i < n → s.getD i false = true → NulR es rows i
theorem getD_set_true {s : List Bool} {i j : Nat} (hi : i < s.length) : (s.set i true).getD j false = (if j = i then true else s.getD j false) := by
 rw [List.getD_eq_getElem?_getD, List.getD_eq_getElem?_getD, List.getElem?_set]; by_cases c : i = j
 · subst c; rw [if_pos rfl, if_pos hi, if_pos rfl]; rfl
 · rw [if_neg c, if_neg (fun e => c e.symm)]
theorem nulQ_all {s : List Bool} {l : List Int} : (l.drop 1).any (nulQ s) = false ↔ ∀ j : Nat, 1 ≤ j → j < l.length → 0 ≤ rd l j ∧ s.getD (rd l j).toNat false = true := by
 rw [List.any_eq_false]; constructor
 · intro h j h1 h2; have := h (rd l j) (by
    have := rd_in (l := l.drop 1) (j := j - 1) (by rw [List.length_drop]; omega); rwa [rd_drop1, show j - 1 + 1 = j by omega] at this)
   unfold nulQ at this; simp at this; exact ⟨this.1, by simpa using this.2⟩
 · intro h x hx; obtain ⟨j, hj, rfl⟩ := in_rd hx; rw [List.length_drop] at hj; rw [rd_drop1]; obtain ⟨h1, h2⟩ := h (j + 1) (by omega) (by omega); unfold nulQ; rw [h2, decide_eq_false (by omega)]; decide
theorem nulI_set {n : Nat} {es : List Int} {rows : List (List Int)} {s : List Bool} (h : NulI n es rows s) {l : List Int} (hl : l ∈ rows) (h0 : 0 ≤ rd l 0 ∧ rd l 0 < n) (hb : ∀ j : Nat, 1 ≤ j → j < l.length → rd l j < n) (hq : (l.drop 1).any (nulQ s) = false) : NulI n es rows (s.set (rd l 0).toNat true) := by
 have hlen := h.len; refine ⟨by rw [List.length_set]; exact h.len, fun x hx => ?_, fun i hi hs => ?_⟩
 · rw [getD_set_true (by omega), h.lo x hx]; split <;> rfl
 · rw [getD_set_true (by omega)] at hs; by_cases c : i = (rd l 0).toNat
   · subst c; have hq' := nulQ_all.1 hq; rw [show (((rd l 0).toNat : Nat) : Int) = rd l 0 by omega]; refine .step hl (fun j a b => (hq' j a b).1) (fun j a b => ?_); have h5 := hq' j a b; have h6 := hb j a b; have := h.hi (rd l j).toNat (by omega) h5.2; rwa [show (((rd l j).toNat : Nat) : Int) = rd l j by omega] at this
   · rw [if_neg c] at hs; exact h.hi i hi hs
def rowDone (s : List Bool) (l : List Int) : Prop := s.getD (rd l 0).toNat false = true ∨ (l.drop 1).any (nulQ s) = true
theorem nulI_mem {n : Nat} {es : List Int} {rows : List (List Int)} {s : List Bool} (h : NulI n es rows s) (he : ∀ x, x ∈ es → 0 ≤ x) (hr : ∀ l, l ∈ rows → 0 ≤ rd l 0) (hd : ∀ l, l ∈ rows → rowDone s l) (i : Nat) (hi : i < n) : s.getD i false = true ↔ NulR es rows i := by
 refine ⟨h.hi i hi, fun hx => ?_⟩; have : (0 : Int) ≤ (i : Int) ∧ s.getD ((i : Int)).toNat false = true := hx.least (T := fun x => 0 ≤ x ∧ s.getD x.toNat false = true) (fun x hx => ⟨he x hx, h.lo x hx⟩) (fun l hl hj => ⟨hr l hl, (hd l hl).elim id (fun hq => by rw [(nulQ_all (s := s) (l := l)).2 fun j a b => (hj j a b).2] at hq; cases hq)⟩); rw [Int.toNat_natCast] at this; exact this.2
theorem nulI_ext {n : Nat} {es : List Int} {rows : List (List Int)} {s t : List Bool} (h : NulI n es rows s) (k : NulI n es rows t) (he : ∀ x, x ∈ es → 0 ≤ x) (hr : ∀ l, l ∈ rows → 0 ≤ rd l 0) (hd : ∀ l, l ∈ rows → rowDone s l) (kd : ∀ l, l ∈ rows → rowDone t l) : s = t := by
 have hl := h.len; have kl := k.len; apply List.ext_getElem?; intro i; by_cases hi : i < n
 · have key : s.getD i false = t.getD i false := by
    rw [Bool.eq_iff_iff, nulI_mem h he hr hd i hi, nulI_mem k he hr kd i hi]
   rw [List.getD_eq_getElem?_getD, List.getD_eq_getElem?_getD, List.getElem?_eq_getElem (by omega), List.getElem?_eq_getElem (by omega)] at key; rw [List.getElem?_eq_getElem (by omega), List.getElem?_eq_getElem (by omega)]; exact congrArg some key
 · rw [List.getElem?_eq_none (by omega), List.getElem?_eq_none (by omega)]
def stepN (s : List Bool) (l : List Int) : List Bool := if (l.drop 1).any (nulQ s) = true then s else s.set (rd l 0).toNat true
def passN (rows : List (List Int)) (s : List Bool) : List Bool := rows.foldl stepN s
def iterN (rows : List (List Int)) : Nat → List Bool → List Bool
 | 0, s => s
 | k + 1, s => iterN rows k (passN rows s)
def nulV (n : Nat) (es : List Int) (rows : List (List Int)) : List Bool := iterN rows (n + 1) ((List.range n).map fun i : Nat => decide ((i : Int) ∈ es))
def rowsIn (n : Nat) (rows : List (List Int)) : Prop := ∀ l, l ∈ rows → (0 ≤ rd l 0 ∧ rd l 0 < n) ∧ ∀ j : Nat, 1 ≤ j → j < l.length → rd l j < n
theorem stepN_ok {n : Nat} {es : List Int} {rows : List (List Int)} (hr : rowsIn n rows) {s : List Bool} (h : NulI n es rows s) {l : List Int} (hl : l ∈ rows) :
 NulI n es rows (stepN s l) ∧ cntN (stepN s l) ≤ cntN s ∧ (cntN (stepN s l) = cntN s → stepN s l = s ∧ rowDone s l) := by
 unfold stepN; cases hq : (l.drop 1).any (nulQ s) with
 | true => exact ⟨h, Nat.le_refl _, fun _ => ⟨rfl, .inr hq⟩⟩
 | false =>
  rw [if_neg (by decide)]; have h0 := (hr l hl).1; have hlen := h.len; refine ⟨nulI_set h hl h0 (hr l hl).2 hq, ?_⟩; cases hv : s.getD (rd l 0).toNat false with
  | true =>
   have e : s.set (rd l 0).toNat true = s := by
    apply List.ext_getElem?; intro i; rw [List.getElem?_set]; by_cases c : (rd l 0).toNat = i
    · subst c; rw [if_pos rfl, if_pos (by omega), List.getElem?_eq_getElem (by omega)]; rw [List.getD_eq_getElem?_getD, List.getElem?_eq_getElem (by omega)] at hv; exact congrArg some hv.symm
    · rw [if_neg c]
   rw [e]; exact ⟨Nat.le_refl _, fun _ => ⟨rfl, .inl hv⟩⟩
  | false =>
   have := cntN_set s (rd l 0).toNat (by omega) hv; exact ⟨by omega, fun h => by omega⟩
theorem passN_ok {n : Nat} {es : List Int} {rows : List (List Int)} (hr : rowsIn n rows) : ∀ (ls : List (List Int)), (∀ l, l ∈ ls → l ∈ rows) → ∀ s : List Bool, NulI n es rows s →
 NulI n es rows (ls.foldl stepN s) ∧ cntN (ls.foldl stepN s) ≤ cntN s ∧ (cntN (ls.foldl stepN s) = cntN s → ls.foldl stepN s = s ∧ ∀ l, l ∈ ls → rowDone s l) := by
 intro ls
 induction ls with
 | nil => intro _ s h; exact ⟨h, Nat.le_refl _, fun _ => ⟨rfl, fun l hl => by cases hl⟩⟩
 | cons l ls ih =>
  intro hs s h; obtain ⟨a1, a2, a3⟩ := stepN_ok hr h (hs l List.mem_cons_self); obtain ⟨b1, b2, b3⟩ := ih (fun x hx => hs x (List.mem_cons_of_mem _ hx)) (stepN s l) a1; refine ⟨b1, Nat.le_trans b2 a2, fun e => ?_⟩; have e1 : cntN (stepN s l) = cntN s := by simp only [List.foldl_cons] at e; omega
  obtain ⟨c1, c2⟩ := a3 e1; rw [c1] at b1 b2 b3; simp only [List.foldl_cons, c1] at e ⊢; obtain ⟨d1, d2⟩ := b3 e; exact ⟨d1, fun x hx => (List.mem_cons.1 hx).elim (fun e => by rw [e]; exact c2) (d2 x)⟩
theorem iterN_ok {n : Nat} {es : List Int} {rows : List (List Int)} (hr : rowsIn n rows) (k : Nat) : ∀ s : List Bool, NulI n es rows s → cntN s < k → NulI n es rows (iterN rows k s) ∧ ∀ l, l ∈ rows → rowDone (iterN rows k s) l := by
 induction k with
 | zero => intro s _ h; omega
 | succ k ih =>
  intro s h hc; obtain ⟨a1, a2, a3⟩ := passN_ok hr rows (fun _ h => h) s h; by_cases e : cntN (passN rows s) = cntN s
  · obtain ⟨b1, b2⟩ := a3 e; have fix : ∀ m, iterN rows m s = s := by
     intro m
     induction m with
     | zero => rfl
     | succ m ihm => show iterN rows m (passN rows s) = s; rw [show passN rows s = s from b1]; exact ihm
    rw [fix]; exact ⟨h, b2⟩
  · show NulI n es rows (iterN rows k (passN rows s)) ∧ _; have a4 : cntN (passN rows s) ≤ cntN s := a2; exact ih _ a1 (by omega)
theorem cntN_le (s : List Bool) : cntN s ≤ s.length := List.count_le_length
theorem nulV_ok {n : Nat} {es : List Int} {rows : List (List Int)} (hr : rowsIn n rows) (he : ∀ x, x ∈ es → 0 ≤ x ∧ x < n) : NulI n es rows (nulV n es rows) ∧ ∀ l, l ∈ rows → rowDone (nulV n es rows) l := by
 have hl : ((List.range n).map fun i : Nat => decide ((i : Int) ∈ es)).length = n := by rw [List.length_map, List.length_range]
 have hg : ∀ i : Nat, i < n → ((List.range n).map fun i : Nat => decide ((i : Int) ∈ es)).getD i false = decide ((i : Int) ∈ es) := fun i hi => by
  rw [List.getD_eq_getElem?_getD, List.getElem?_map, List.getElem?_range hi]; rfl
 refine iterN_ok hr (n + 1) _ ⟨hl, fun x hx => ?_, fun i hi h => ?_⟩ (Nat.lt_succ_of_le (by have := cntN_le ((List.range n).map fun i : Nat => decide ((i : Int) ∈ es)); rw [hl] at this; exact this))
 · have := he x hx; rw [hg x.toNat (by omega)]; exact decide_eq_true (by rw [show ((x.toNat : Nat) : Int) = x by omega]; exact hx)
 · rw [hg i hi] at h; exact .base (of_decide_eq_true h)
theorem nulV_len {n : Nat} {es : List Int} {rows : List (List Int)} (hr : rowsIn n rows) (he : ∀ x, x ∈ es → 0 ≤ x ∧ x < n) : (nulV n es rows).length = n := (nulV_ok hr he).1.len
theorem nulV_at {n : Nat} {es : List Int} {rows : List (List Int)} (hr : rowsIn n rows) (he : ∀ x, x ∈ es → 0 ≤ x ∧ x < n) {i : Nat} (hi : i < n) : (nulV n es rows).getD i false = true ↔ NulR es rows i :=
 nulI_mem (nulV_ok hr he).1 (fun x hx => (he x hx).1) (fun l hl => (hr l hl).1.1) (nulV_ok hr he).2 i hi
theorem nulI_end {n : Nat} {es : List Int} {rows : List (List Int)} {s : List Bool} (h : NulI n es rows s) (hr : rowsIn n rows) (he : ∀ x, x ∈ es → 0 ≤ x ∧ x < n) (hd : ∀ l, l ∈ rows → rowDone s l) : s = nulV n es rows :=
 nulI_ext h (nulV_ok hr he).1 (fun x hx => (he x hx).1) (fun l hl => (hr l hl).1.1) hd (nulV_ok hr he).2
theorem okB_rows {n : Nat} {toks : Int} {ps os : List (List Int)} {es : List Int} (h : OkB (n : Int) toks ps os es) : rowsIn n (ps ++ os) := fun l hl => (List.mem_append.1 hl).elim (fun hl => ⟨(h.p l hl).2.1, fun j a b => ((h.p l hl).2.2 j a b).2⟩) (fun hl => ⟨(h.o l hl).2.1, fun j a b => ((h.o l hl).2.2 j a b).2⟩)
end Go.Proofs.Ytkocahlifffgjaa.P
namespace Go.Proofs
open Go.Shelf
def Try.srt_ren : Go.Shelf.Ren := ⟨fun | 5 => 98 | 8 => 118 | 7 => 119 | 19 => 135 | 20 => 136 | 10 => 137 | 11 => 138 | 12 => 139 | 13 => 140 | 14 => 141 | 15 => 142 | 16 => 143 | 17 => 144 | 18 => 145 | 30 => 152 | 31 => 148 | 32 => 149 | 33 => 153 | 34 => 154 | 35 => 126 | 40 => 156 | n => n, fun | 23 => 23 | 25 => 3 | 3 => 3 | 32 => 114 | 22 => 23 | 0 => 0 | 44 => 131 | 46 => 133 | 4 => 4 | 36 => 124 | 35 => 123 | 41 => 128 | 5 => 5 | 9 => 9 | 53 => 140 | 57 => 144 | 63 => 148 | 64 => 149 | n => n, fun | n => n⟩
theorem Try.srt : Go.Proofs.SlLaysM.n5 Try.prog Try.srt_ren := {
 mixed := by kernel_rfl,
 f5 := ⟨Try.f98.name, by decide, Try.func98.trans (congrArg some (by kernel_rfl))⟩,
 f7 := ⟨Try.f119.name, by decide, Try.func119.trans (congrArg some (by kernel_rfl))⟩,
 f8 := Try.func118.trans (congrArg some (by kernel_rfl)),
 f10 := ⟨Try.f137.name, by decide, Try.func137.trans (congrArg some (by kernel_rfl))⟩,
 f11 := ⟨Try.f138.name, by decide, Try.func138.trans (congrArg some (by kernel_rfl))⟩,
 f12 := ⟨Try.f139.name, by decide, Try.func139.trans (congrArg some (by kernel_rfl))⟩,
 f13 := ⟨Try.f140.name, by decide, Try.func140.trans (congrArg some (by kernel_rfl))⟩,
 f14 := ⟨Try.f141.name, by decide, Try.func141.trans (congrArg some (by kernel_rfl))⟩,
 f15 := ⟨Try.f142.name, by decide, Try.func142.trans (congrArg some (by kernel_rfl))⟩,
 f16 := ⟨Try.f143.name, by decide, Try.func143.trans (congrArg some (by kernel_rfl))⟩,
 f17 := ⟨Try.f144.name, by decide, Try.func144.trans (congrArg some (by kernel_rfl))⟩,
 f18 := ⟨Try.f145.name, by decide, Try.func145.trans (congrArg some (by kernel_rfl))⟩,
 f19 := Try.func135.trans (congrArg some (by kernel_rfl)),
 f20 := Try.func136.trans (congrArg some (by kernel_rfl)),
 f30 := ⟨Try.f152.name, by decide, Try.func152.trans (congrArg some (by kernel_rfl))⟩,
 f31 := Try.func148.trans (congrArg some (by kernel_rfl)),
 f32 := Try.func149.trans (congrArg some (by kernel_rfl)),
 f33 := ⟨Try.f153.name, by decide, Try.func153.trans (congrArg some (by kernel_rfl))⟩,
 f34 := ⟨Try.f154.name, by decide, Try.func154.trans (congrArg some (by kernel_rfl))⟩,
 f35 := ⟨Try.f126.name, by decide, Try.func126.trans (congrArg some (by kernel_rfl))⟩,
 f40 := ⟨Try.f156.name, by decide, Try.func156.trans (congrArg some (by kernel_rfl))⟩,
 t0 := Try.underlying0,
 a0 := Try.isAgg0,
 z0 := Try.sizeOf0,
 v0 := Try.zeroValue0,
 t3 := Try.underlying3,
 a3 := Try.isAgg3,
 z3 := Try.sizeOf3,
 v3 := Try.zeroValue3,
 t4 := Try.underlying4,
 a4 := Try.isAgg4,
 z4 := Try.sizeOf4,
 v4 := Try.zeroValue4,
 t5 := Try.underlying5,
 a5 := Try.isAgg5,
 z5 := Try.sizeOf5,
 v5 := Try.zeroValue5,
 t9 := Try.underlying9,
 a9 := Try.isAgg9,
 z9 := Try.sizeOf9,
 v9 := Try.zeroValue9,
 t22 := Try.underlying23,
 a22 := Try.isAgg23,
 z22 := Try.sizeOf23,
 v22 := Try.zeroValue23,
 t23 := Try.underlying23,
 a23 := Try.isAgg23,
 z23 := Try.sizeOf23,
 v23 := Try.zeroValue23,
 t25 := Try.underlying3,
 a25 := Try.isAgg3,
 z25 := Try.sizeOf3,
 v25 := Try.zeroValue3,
 t32 := Try.underlying114,
 a32 := Try.isAgg114,
 z32 := Try.sizeOf114,
 v32 := Try.zeroValue114,
 t35 := Try.underlying123,
 a35 := Try.isAgg123,
 z35 := Try.sizeOf123,
 v35 := Try.zeroValue123,
 t36 := Try.underlying124,
 a36 := Try.isAgg124,
 z36 := Try.sizeOf124,
 v36 := Try.zeroValue124,
 t41 := Try.underlying128,
 a41 := Try.isAgg128,
 z41 := Try.sizeOf128,
 v41 := Try.zeroValue128,
 t44 := Try.underlying131,
 a44 := Try.isAgg131,
 z44 := Try.sizeOf131,
 v44 := Try.zeroValue131,
 t46 := Try.underlying133,
 a46 := Try.isAgg133,
 z46 := Try.sizeOf133,
 v46 := Try.zeroValue133,
 t53 := Try.underlying140,
 a53 := Try.isAgg140,
 z53 := Try.sizeOf140,
 v53 := Try.zeroValue140,
 t57 := Try.underlying144,
 a57 := Try.isAgg144,
 z57 := Try.sizeOf144,
 v57 := Try.zeroValue144,
 t63 := Try.underlying148,
 a63 := Try.isAgg148,
 z63 := Try.sizeOf148,
 v63 := Try.zeroValue148,
 t64 := Try.underlying149,
 a64 := Try.isAgg149,
 z64 := Try.sizeOf149,
 v64 := Try.zeroValue149
 }
def Try.cmpt_ren : Go.Shelf.Ren := ⟨fun | 43 => 100 | n => n, fun | 22 => 23 | 23 => 3 | 3 => 3 | 4 => 4 | 0 => 0 | n => n, fun | n => n⟩
theorem Try.cmpt : Go.Proofs.SlLaysE.n43 Try.prog Try.cmpt_ren := {
 mixed := by kernel_rfl,
 f43 := ⟨Try.f100.name, by decide, Try.func100.trans (congrArg some (by kernel_rfl))⟩,
 t0 := Try.underlying0,
 a0 := Try.isAgg0,
 z0 := Try.sizeOf0,
 v0 := Try.zeroValue0,
 t3 := Try.underlying3,
 a3 := Try.isAgg3,
 z3 := Try.sizeOf3,
 v3 := Try.zeroValue3,
 t4 := Try.underlying4,
 a4 := Try.isAgg4,
 z4 := Try.sizeOf4,
 v4 := Try.zeroValue4,
 t22 := Try.underlying23,
 a22 := Try.isAgg23,
 z22 := Try.sizeOf23,
 v22 := Try.zeroValue23,
 a23 := Try.isAgg3,
 z23 := Try.sizeOf3
 }
def Try.srtf_ren : Go.Shelf.Ren := ⟨fun | 6 => 95 | 15 => 118 | 14 => 117 | 28 => 135 | 29 => 136 | 20 => 127 | 21 => 128 | 22 => 129 | 23 => 130 | 24 => 131 | 25 => 132 | 26 => 133 | 27 => 134 | 46 => 147 | 47 => 148 | 48 => 149 | 49 => 150 | 50 => 151 | 57 => 155 | n => n, fun | 22 => 22 | 24 => 23 | 25 => 97 | 3 => 3 | 39 => 114 | 0 => 0 | 53 => 131 | 55 => 133 | 4 => 4 | 46 => 124 | 45 => 123 | 50 => 128 | 5 => 5 | 9 => 9 | 66 => 140 | 70 => 144 | 76 => 148 | 77 => 149 | n => n, fun | n => n⟩
theorem Try.srtf : Go.Proofs.SlLaysF.n6 Try.prog Try.srtf_ren := {
 mixed := by kernel_rfl,
 f6 := ⟨Try.f95.name, by decide, Try.func95.trans (congrArg some (by kernel_rfl))⟩,
 f14 := ⟨Try.f117.name, by decide, Try.func117.trans (congrArg some (by kernel_rfl))⟩,
 f15 := Try.func118.trans (congrArg some (by kernel_rfl)),
 f20 := ⟨Try.f127.name, by decide, Try.func127.trans (congrArg some (by kernel_rfl))⟩,
 f21 := ⟨Try.f128.name, by decide, Try.func128.trans (congrArg some (by kernel_rfl))⟩,
 f22 := ⟨Try.f129.name, by decide, Try.func129.trans (congrArg some (by kernel_rfl))⟩,
 f23 := ⟨Try.f130.name, by decide, Try.func130.trans (congrArg some (by kernel_rfl))⟩,
 f24 := ⟨Try.f131.name, by decide, Try.func131.trans (congrArg some (by kernel_rfl))⟩,
 f25 := ⟨Try.f132.name, by decide, Try.func132.trans (congrArg some (by kernel_rfl))⟩,
 f26 := ⟨Try.f133.name, by decide, Try.func133.trans (congrArg some (by kernel_rfl))⟩,
 f27 := ⟨Try.f134.name, by decide, Try.func134.trans (congrArg some (by kernel_rfl))⟩,
 f28 := Try.func135.trans (congrArg some (by kernel_rfl)),
 f29 := Try.func136.trans (congrArg some (by kernel_rfl)),
 f46 := ⟨Try.f147.name, by decide, Try.func147.trans (congrArg some (by kernel_rfl))⟩,
 f47 := Try.func148.trans (congrArg some (by kernel_rfl)),
 f48 := Try.func149.trans (congrArg some (by kernel_rfl)),
 f49 := ⟨Try.f150.name, by decide, Try.func150.trans (congrArg some (by kernel_rfl))⟩,
 f50 := ⟨Try.f151.name, by decide, Try.func151.trans (congrArg some (by kernel_rfl))⟩,
 f57 := ⟨Try.f155.name, by decide, Try.func155.trans (congrArg some (by kernel_rfl))⟩,
 t0 := Try.underlying0,
 a0 := Try.isAgg0,
 z0 := Try.sizeOf0,
 v0 := Try.zeroValue0,
 t3 := Try.underlying3,
 a3 := Try.isAgg3,
 z3 := Try.sizeOf3,
 v3 := Try.zeroValue3,
 t4 := Try.underlying4,
 a4 := Try.isAgg4,
 z4 := Try.sizeOf4,
 v4 := Try.zeroValue4,
 t5 := Try.underlying5,
 a5 := Try.isAgg5,
 z5 := Try.sizeOf5,
 v5 := Try.zeroValue5,
 t9 := Try.underlying9,
 a9 := Try.isAgg9,
 z9 := Try.sizeOf9,
 v9 := Try.zeroValue9,
 t22 := Try.underlying22,
 a22 := Try.isAgg22,
 z22 := Try.sizeOf22,
 v22 := Try.zeroValue22,
 a24 := Try.isAgg23,
 z24 := Try.sizeOf23,
 t25 := Try.underlying97,
 a25 := Try.isAgg97,
 z25 := Try.sizeOf97,
 v25 := Try.zeroValue97,
 t39 := Try.underlying114,
 a39 := Try.isAgg114,
 z39 := Try.sizeOf114,
 v39 := Try.zeroValue114,
 t45 := Try.underlying123,
 a45 := Try.isAgg123,
 z45 := Try.sizeOf123,
 v45 := Try.zeroValue123,
 t46 := Try.underlying124,
 a46 := Try.isAgg124,
 z46 := Try.sizeOf124,
 v46 := Try.zeroValue124,
 t50 := Try.underlying128,
 a50 := Try.isAgg128,
 z50 := Try.sizeOf128,
 v50 := Try.zeroValue128,
 t53 := Try.underlying131,
 a53 := Try.isAgg131,
 z53 := Try.sizeOf131,
 v53 := Try.zeroValue131,
 t55 := Try.underlying133,
 a55 := Try.isAgg133,
 z55 := Try.sizeOf133,
 v55 := Try.zeroValue133,
 t66 := Try.underlying140,
 a66 := Try.isAgg140,
 z66 := Try.sizeOf140,
 v66 := Try.zeroValue140,
 t70 := Try.underlying144,
 a70 := Try.isAgg144,
 z70 := Try.sizeOf144,
 v70 := Try.zeroValue144,
 t76 := Try.underlying148,
 a76 := Try.isAgg148,
 z76 := Try.sizeOf148,
 v76 := Try.zeroValue148,
 t77 := Try.underlying149,
 a77 := Try.isAgg149,
 z77 := Try.sizeOf149,
 v77 := Try.zeroValue149
 }
end Go.Proofs
namespace Go.Proofs.Ytkocahlifffgjaa.P
open Go.RowKit Go.Proofs.YtkocahlifffgjaaW.PrintWords Go.Proofs.YtkocahlifffgjaaW.PrintLast Go.Proofs.YtkocahlifffgjaaW.PrintMore
set_option linter.unusedVariables false
set_option linter.unusedSimpArgs false
theorem reps_ints {W : World} {base : Nat} {ok : Nat → Prop} : ∀ (zs : List Int), Reps ((Kd.int .i64).M W base ok) 1 zs (zs.map (Value.int .i64))
 | zs => ⟨by simp, fun j x hx => by
  have h1 : (zs.map (Value.int .i64))[j]? = some (.int .i64 x) := by rw [List.getElem?_map, hx]; rfl
  rw [Nat.mul_one]; obtain ⟨h2, h3⟩ := List.getElem?_eq_some_iff.1 h1; rw [List.drop_eq_getElem_cons h2, h3]; rfl⟩
theorem ints_of {W : World} {base : Nat} {ok : Nat → Prop} {zs : List Int} {cs : List Value} (h : Reps ((Kd.int .i64).M W base ok) 1 zs cs) : cs = zs.map (Value.int .i64) := by
 obtain ⟨h1, h2⟩ := h; apply List.ext_getElem?; intro j; rw [List.getElem?_map]; cases hx : zs[j]? with
 | none =>
  have h3 := List.getElem?_eq_none_iff.1 hx; rw [List.getElem?_eq_none_iff.2 (by rw [h1, Nat.mul_one]; exact h3)]; rfl
 | some x =>
  have h3 := h2 j x hx; rw [Nat.mul_one] at h3; have h4 : (cs.drop j).take 1 = [.int .i64 x] := h3; have h5 := congrArg (fun l => l[0]?) h4; simp only [List.getElem?_take_of_lt (show 0 < 1 by decide), List.getElem?_drop, Nat.add_zero] at h5; rw [h5]; rfl
theorem R_ints {W : World} {base e : Nat} {ok : Nat → Prop} {v : Value} {zs : List Int} (h : Kd.R (Kd.int .i64) e W base ok v zs) :
 (v = .slice none 0 0 ∧ zs = []) ∨ ∃ (g cap : Nat) (cur : Array Value), v = .slice (some ⟨g, 0, none⟩) zs.length cap ∧ ok g ∧ base ≤ g ∧ W.heap[g]? = some (.cells cur e (0, 0)) ∧ zs.length ≤ cap ∧ cap ≤ maxLen ∧ cur.size = cap * 1 ∧ cur.toList.take zs.length = zs.map (Value.int .i64) := by
 obtain ⟨hok, inner, ⟨hlen, hrow⟩, hr⟩ := h; obtain rfl := ints_of hr; rcases hrow with ⟨hv, h0⟩ | ⟨g, cap, cur, hv, hbg, hh, hnc, hcm, hcs, ht⟩
 · refine .inl ⟨hv, ?_⟩; exact List.length_eq_zero_iff.1 h0
 · exact .inr ⟨g, cap, cur, hv, hok g (by rw [hv]; rfl), hbg, hh, hnc, hcm, hcs, by rw [show zs.length * (Kd.int .i64).sz = zs.length from Nat.mul_one _] at ht; exact ht⟩
theorem R_of_block {W : World} {base e g cap : Nat} {ok : Nat → Prop} {zs : List Int} {cur : Array Value} (hok : ok g) (hb : base ≤ g) (hh : W.heap[g]? = some (.cells cur e (0, 0))) (hn : zs.length ≤ cap) (hc : cap ≤ maxLen) (hs : cur.size = cap * 1) (ht : cur.toList.take zs.length = zs.map (Value.int .i64)) :
 Kd.R (Kd.int .i64) e W base ok (.slice (some ⟨g, 0, none⟩) zs.length cap) zs :=
 ⟨fun k hk => by have : g = k := by simpa [Value.ownBlock] using hk
                 rw [← this]; exact hok, zs.map (Value.int .i64), ⟨by rw [List.length_map]; exact (Nat.mul_one _).symm, .inr ⟨g, cap, cur, rfl, hb, hh, hn, hc, hs, by rw [show zs.length * (Kd.int .i64).sz = zs.length from Nat.mul_one _]; exact ht⟩⟩, reps_ints zs⟩
theorem mergeI_len (l : List Int) : (l.mergeSort fun x y => decide (x ≤ y)).length = l.length := List.length_mergeSort l
theorem below_sorted {b : Nat} {w W : World} {g n : Nat} {os : Array Obj} (d : Array Int) (h : Below b w W) (hg : b ≤ g) (hb : b ≤ W.heap.size) : Below b w (Go.Sort.grow (Go.Sort.putRow (Value.int .i64) (Go.Sort.ahead W n) g 0 d) os) := by
 have k := Go.grownBy_sortedI (w := W) (g := g) (n := n) (os := os) d; exact ⟨k.os.trans h.os, k.tape.trans h.tape, k.output.trans h.output, Nat.le_trans h.size k.size, fun i hi => (k.block i (Nat.lt_of_lt_of_le hi hb) (fun e => by injection e with e; omega)).trans (h.block i hi)⟩
theorem kept_sorted {W : World} {g n : Nat} {os : Array Obj} {P : Nat → Prop} (d : Array Int) (hg : P g) : Kept W (Go.Sort.grow (Go.Sort.putRow (Value.int .i64) (Go.Sort.ahead W n) g 0 d) os) P := by
 have k := Go.grownBy_sortedI (w := W) (g := g) (n := n) (os := os) d; exact ⟨k.size, fun i hi hn => k.block i hi (fun e => hn (by injection e with e; rw [e]; exact hg))⟩
def slices_Sort_int_int.f (l0 : List Int) : Option (List Int) := if l0.length < 4611686018427387904 then some (l0.mergeSort fun x y => decide (x ≤ y)) else none
theorem slices_Sort_int_int.calls (P0_ : Nat → Prop) (u9000_ : Value) (l0 : List Int) (r : List Int) (w0 w : World) (hB : Below w0.heap.size w0 w) (ho0 : Kd.R (Kd.int .i64) 3 w w0.heap.size P0_ u9000_ l0) (h : slices_Sort_int_int.f l0 = some r) :
 Calls Try.prog 98 #[u9000_] w fun e w' => e = .returned (.tuple #[]) ∧ Kd.R (Kd.int .i64) 3 w' w0.heap.size (fun k_ => (P0_ k_ ∨ w.heap.size ≤ k_)) u9000_ r ∧ Below w0.heap.size w0 w' ∧ Kept w w' (fun k_ => P0_ k_) := by
 unfold slices_Sort_int_int.f at h; by_cases hl : l0.length < 4611686018427387904
 · rw [if_pos hl] at h; obtain rfl := Option.some.inj h; rcases R_ints ho0 with ⟨rfl, rfl⟩ | ⟨g, cap, cur, rfl, hok, hbg, hh, hn, hc, hs, ht⟩
   · refine (AnyM.slices_Sort_int_none Try.srt none 0 w).mono fun e w' ⟨he, hw⟩ => ?_
     subst hw; exact ⟨he, by rw [List.mergeSort_nil]; exact Kd.R_nil _ _ _ _ _, hB, Kept.refl _ _⟩
   · have hg : g < w.heap.size := (Array.getElem?_eq_some_iff.1 hh).1; refine (AnyM.slices_Sort_int Try.srt g 0 cap l0 w (Go.holds_of_blockI hh ht) hg hl).mono fun e w' ⟨he, n, os, hw⟩ => ?_
     have hl2 := mergeI_len l0; subst hw; refine ⟨he, ?_, below_sorted _ hB hbg hB.size, kept_sorted _ hok⟩; have hh2 := Go.heap_sortedI (n := n) (os := os) (l0.mergeSort fun x y => decide (x ≤ y)).toArray hh; have R := R_of_block (cap := cap) (ok := fun k_ => (P0_ k_ ∨ w.heap.size ≤ k_)) (.inl hok) hbg hh2 (by rw [hl2]; exact hn) hc (by simp [Go.Sort.putCells, hs]) (Go.take_putCellsI cur _ (by rw [hl2]; omega)); rw [hl2] at R; exact R
 · rw [if_neg hl] at h; cases h
def slices_Compact_int_int.f (l0 : List Int) : Option (List Int) := if l0.length < 4611686018427387904 then some (Go.Lib.compactUpTo l0.toArray l0.length) else none
theorem compact_le (l : List Int) : (Go.Lib.compactUpTo l.toArray l.length).length ≤ l.length := by
 unfold Go.Lib.compactUpTo; rw [List.length_map]; exact Nat.le_trans (List.length_filter_le _ _) (by simp)
theorem slices_Compact_int_int.calls (P0_ : Nat → Prop) (u9000_ : Value) (l0 : List Int) (r : List Int) (w0 w : World) (hB : Below w0.heap.size w0 w) (ho0 : Kd.R (Kd.int .i64) 3 w w0.heap.size P0_ u9000_ l0) (h : slices_Compact_int_int.f l0 = some r) :
 Calls Try.prog 100 #[u9000_] w fun e w' => ∃ v0_ : Value, e = .returned (v0_) ∧ Kd.R (Kd.int .i64) 3 w' w0.heap.size (fun k_ => (P0_ k_ ∨ w.heap.size ≤ k_)) v0_ r ∧ Below w0.heap.size w0 w' ∧ Kept w w' (fun k_ => P0_ k_) := by
 unfold slices_Compact_int_int.f at h; by_cases hl : l0.length < 4611686018427387904
 · rw [if_pos hl] at h; obtain rfl := Option.some.inj h; rcases R_ints ho0 with ⟨rfl, rfl⟩ | ⟨g, cap, cur, rfl, hok, hbg, hh, hn, hc, hs, ht⟩
   · go_enter Try.func100, Try.ntmps100; go_wp2; go_ret; exact ⟨_, rfl, Kd.R_nil _ _ _ _ _, hB, Kept.refl _ _⟩
   · have hg : g < w.heap.size := (Array.getElem?_eq_some_iff.1 hh).1; refine (AnyE.slices_Compact Try.cmpt (Value.int .i64) (fun _ => rfl) (EqlAt.intD _ _ .i64) (NeqAt.intD _ _ .i64) 0 Try.zeroValue3 g 0 cap l0.toArray w (Go.holds_of_blockI hh ht) (by simp; omega) (by simpa using hn)).mono fun e w' ⟨he, q, hw⟩ => ?_
     have hl2 := compact_le l0; have hsz : l0.toArray.size = l0.length := by simp
     rw [hsz] at he hw; rw [← Go.Sort.grow_empty (Go.Sort.putRow _ _ _ _ _)] at hw; subst hw; refine ⟨_, he, ?_, below_sorted _ hB hbg hB.size, kept_sorted _ hok⟩; have hh2 := Go.heap_sortedI (n := q) (os := #[]) (Go.Lib.compactUpTo l0.toArray l0.length ++ List.replicate (l0.length - (Go.Lib.compactUpTo l0.toArray l0.length).length) 0).toArray hh; refine R_of_block (cap := cap) (ok := fun k_ => (P0_ k_ ∨ w.heap.size ≤ k_)) (.inl hok) hbg hh2 (by omega) hc (by simp [Go.Sort.putCells, hs]) ?_; have h3 := Go.take_putCellsI cur (Go.Lib.compactUpTo l0.toArray l0.length ++ List.replicate (l0.length - (Go.Lib.compactUpTo l0.toArray l0.length).length) 0) (by rw [List.length_append, List.length_replicate]; omega); have h4 := congrArg (fun l => l.take (Go.Lib.compactUpTo l0.toArray l0.length).length) h3; simp only [List.take_take, List.length_append] at h4; rw [Nat.min_eq_left (by omega)] at h4; rw [h4, List.map_append, List.take_append_of_le_length (by simp), List.take_of_length_le (by simp)]
 · rw [if_neg hl] at h; cases h
end Go.Proofs.Ytkocahlifffgjaa.P
namespace Go.Proofs.Ytkocahlifffgjaa.P
open Go.RowKit Go.Proofs.YtkocahlifffgjaaW.PrintWords Go.Proofs.YtkocahlifffgjaaW.PrintLast Go.Proofs.YtkocahlifffgjaaW.PrintMore
attribute [local go_sem] max2_int min2_int max_two min_two max_three min_three max_four min_four
set_option linter.unusedVariables false
set_option linter.unusedSimpArgs false
def spec_l1Put.l0 : Nat → List Int → Int → Int → Option (List Int)
 | 0, _, _, _ => none
 | k + 1, x0, x1, x5 => if x5 < (x0.length : Int) then (if 0 ≤ x5 then (if (rd x0 x5) < x1 then (spec_l1Put.l0 k x0 x1 (wrap64 (x5 + 1))) else (if (rd x0 x5) = x1 then (some x0) else ((some (([] : List Int) : List Int)).bind fun y103 => (if x5 ≤ (x0.length : Int) then ((some (x0.take (x5 : Int).toNat : List Int)).bind fun y106 => (if y103.length + y106.length < 17592186044416 then ((some (y103 ++ y106 : List Int)).bind fun y110 => (if y110.length < 17592186044416 then ((some (y110 ++ [x1] : List Int)).bind fun y113 => ((some (x0.drop (x5 : Int).toNat : List Int)).bind fun y116 => (if y113.length + y116.length < 17592186044416 then (some (y113 ++ y116)) else (none)))) else (none))) else (none))) else (none))))) else (none)) else ((some (([] : List Int) : List Int)).bind fun y123 => (if 0 ≤ x5 then (if x5 ≤ (x0.length : Int) then ((some (x0.take (x5 : Int).toNat : List Int)).bind fun y126 => (if y123.length + y126.length < 17592186044416 then ((some (y123 ++ y126 : List Int)).bind fun y130 => (if y130.length < 17592186044416 then ((some (y130 ++ [x1] : List Int)).bind fun y133 => ((some (x0.drop (x5 : Int).toNat : List Int)).bind fun y136 => (if y133.length + y136.length < 17592186044416 then (some (y133 ++ y136)) else (none)))) else (none))) else (none))) else (none)) else (none)))
def spec_l1Put.f (k : Nat) (l0 : List Int) (a1 : Int) : Option (List Int) := spec_l1Put.l0 k l0 a1 0
set_option maxHeartbeats 8000000 in
set_option maxRecDepth 100000 in
theorem spec_l1Put.calls (k : Nat) (P0_ : Nat → Prop) (u9000_ : Value) (l0 : List Int) (a1 : Int) (r : List Int) (w0 w : World) (hB : Below w0.heap.size w0 w) (ho0 : Kd.R (Kd.int .i64) 3 w w0.heap.size P0_ u9000_ l0) (h : spec_l1Put.f k l0 a1 = some r) :
 Calls Try.prog 66 #[u9000_, .int .i64 a1] w fun e w' => ∃ v0_ : Value, e = .returned (v0_) ∧ Kd.R (Kd.int .i64) 3 w' w0.heap.size (fun k_ => (P0_ k_ ∨ w.heap.size ≤ k_)) v0_ r ∧ Below w0.heap.size w0 w' ∧ Kept w w' (fun k_ => P0_ k_) := by
 have HO0 := Aside0.mk (show Kd.R (Kd.int .i64) 3 w w0.heap.size (fun k_ => (P0_ k_ ∨ w.heap.size ≤ k_)) u9000_ l0 from Kd.R_mono ho0 (fun k_ hk => (.inl hk))); have HK := Aside0.mk (Kept.refl w (fun k_ => P0_ k_)); have HW0 := Aside0.mk hB.size; have HB := Aside0.mk hB; clear hB; have H : (spec_l1Put.l0 k l0 a1 0) = some r := h; clear h; have H' := Aside0.mk H; clear H; go_enter Try.func66, Try.ntmps66; go_wp2; go_loopg [5] k (fun kq v5 w' => ∃ (x5_1 : Int), v5 = .int .i64 x5_1 ∧ Aside0 (spec_l1Put.l0 kq l0 a1 x5_1 = some r) ∧ Aside0 (kq ≤ k) ∧ Aside0 (Kd.R (Kd.int .i64) 3 w' w0.heap.size (fun k_ => (P0_ k_ ∨ w.heap.size ≤ k_)) u9000_ l0) ∧ Aside0 (Kept w w' (fun k_ => P0_ k_)) ∧ Aside0 (Below w0.heap.size w0 w'))
 case atStart => exact ⟨(0), (by first | rfl | (simp; done) | (simp [*]; done)), H', ⟨Nat.le_refl _⟩, ⟨by (with_reducible repeat (first | apply Kd.R_alloc | apply Kd.R_drewN | apply Kd.R_drew)); exact HO0.out⟩, ⟨by repeat (first | (with_reducible first | exact HK.out | apply Kept.alloc | apply Kept.drewN | apply Kept.drew) | exact HK.out)⟩, ⟨by repeat (first | (with_reducible first | exact HB.out | apply below_alloc | apply pw_below_drewN | apply below_drew1) | exact HB.out)⟩⟩
 case round =>
  clear H'; (try clear p2); obtain ⟨x5_1, rfl, HA, HK1, HO_0, HK, HB⟩ := hrel; cases gk with
  | zero => exact absurd HA.out (by simp [spec_l1Put.l0])
  | succ k1 =>
   have H := HA.out; clear HA; simp only [spec_l1Put.l0] at H; by_cases c3 : x5_1 < (l0.length : Int)
   · rw [if_pos c3] at H; have c3b0 : decide (x5_1 < (l0.length : Int)) = true := decide_eq_true c3; clear c3; by_cases c4 : 0 ≤ x5_1
     · rw [if_pos c4] at H; have c4b0 : decide (0 ≤ x5_1) = true := decide_eq_true c4; clear c4; by_cases c5 : (rd l0 x5_1) < a1
       · rw [if_pos c5] at H; have c5b0 : decide ((rd l0 x5_1) < a1) = true := decide_eq_true c5; clear c5; have H' := Aside0.mk H; clear H; obtain ⟨Ao6, co6, eo6⟩ := Kd.R_slice HO_0.out; subst eo6; have p101 : 0 ≤ (x5_1 : Int) := of_decide_eq_true (by assumption); have q101 : x5_1 < (l0.length : Int) := of_decide_eq_true (by assumption); obtain ⟨ad101, e101, hx101_0⟩ := Kd.at_int (Kd.R_reads' HO_0.out).2.2 x5_1 p101 q101; cases e101; replace p101 := eq_true p101; replace q101 := eq_true q101; go_wp2
         go_roundg k1
         case measure => have := HK1.out; omega
         case rel => exact ⟨(wrap64 (x5_1 + 1)), (by first | rfl | (simp; done) | (simp [*]; done)), H', ⟨by have := HK1.out; omega⟩, ⟨by (with_reducible repeat (first | apply Kd.R_alloc | apply Kd.R_drewN | apply Kd.R_drew)); exact HO_0.out⟩, ⟨by repeat (first | (with_reducible first | exact HK.out | apply Kept.alloc | apply Kept.drewN | apply Kept.drew) | exact HK.out)⟩, ⟨by repeat (first | (with_reducible first | exact HB.out | apply below_alloc | apply pw_below_drewN | apply below_drew1) | exact HB.out)⟩⟩
       · rw [if_neg c5] at H; have c5b0 : decide ((rd l0 x5_1) < a1) = false := decide_eq_false c5; clear c5; by_cases c7 : (rd l0 x5_1) = a1
         · rw [if_pos c7] at H; have c7b0 : ((rd l0 x5_1) == a1) = true := beq_iff_eq.mpr c7; have c7b1 : ((rd l0 x5_1) != a1) = false := bne_eq_false_iff_eq.mpr c7; clear c7; obtain rfl := Option.some.inj H; obtain ⟨Ao8, co8, eo8⟩ := Kd.R_slice HO_0.out; subst eo8; have p101 : 0 ≤ (x5_1 : Int) := of_decide_eq_true (by assumption); have q101 : x5_1 < (l0.length : Int) := of_decide_eq_true (by assumption); obtain ⟨ad101, e101, hx101_0⟩ := Kd.at_int (Kd.R_reads' HO_0.out).2.2 x5_1 p101 q101; cases e101; replace p101 := eq_true p101; replace q101 := eq_true q101; have p102 : 0 ≤ (x5_1 : Int) := of_decide_eq_true (by assumption); have q102 : x5_1 < (l0.length : Int) := of_decide_eq_true (by assumption); obtain ⟨ad102, e102, hx102_0⟩ := Kd.at_int (Kd.R_reads' HO_0.out).2.2 x5_1 p102 q102; obtain rfl : ad101 = ad102 := (by injection e102)
           replace p102 := eq_true p102; replace q102 := eq_true q102; go_wp2; go_ret; exact ⟨_, by first | rfl | (simp [errW_none, errW_some] <;> rfl) | (simp [*, errW_none, errW_some] <;> rfl), by (with_reducible repeat (first | apply Kd.R_alloc | apply Kd.R_drewN | apply Kd.R_drew)); exact HO_0.out, by repeat (first | (with_reducible first | exact HB.out | apply below_alloc | apply pw_below_drewN | apply below_drew1) | exact HB.out), by repeat (first | (with_reducible first | exact HK.out | apply Kept.alloc | apply Kept.drewN | apply Kept.drew) | exact HK.out)⟩
         · rw [if_neg c7] at H; have c7b0 : ((rd l0 x5_1) == a1) = false := beq_eq_false_iff_ne.mpr c7; have c7b1 : ((rd l0 x5_1) != a1) = true := bne_iff_ne.mpr c7; obtain ⟨y103, hy103⟩ : ∃ y_ : List Int, y_ = (([] : List Int)) := ⟨_, rfl⟩
           replace H : (if x5_1 ≤ (l0.length : Int) then ((some (l0.take (x5_1 : Int).toNat : List Int)).bind fun y106 => (if y103.length + y106.length < 17592186044416 then ((some (y103 ++ y106 : List Int)).bind fun y110 => (if y110.length < 17592186044416 then ((some (y110 ++ [a1] : List Int)).bind fun y113 => ((some (l0.drop (x5_1 : Int).toNat : List Int)).bind fun y116 => (if y113.length + y116.length < 17592186044416 then (some (y113 ++ y116)) else (none)))) else (none))) else (none))) else (none)) = some r := by first | (rw [hy103]; with_reducible exact H) | (have H2_ := (Option.bind_some _ _).symm.trans H; rw [hy103]; with_reducible exact H2_) | (have H2_ := (Option.bind_some _ _).symm.trans H; with_reducible exact H2_) | with_reducible exact H | (rw [hy103]; exact H) | exact H
           have Ny103 := Aside0.mk hy103; clear hy103; have c9b0 := eq_true (of_decide_eq_true (by assumption) : 0 ≤ x5_1); by_cases c10 : x5_1 ≤ (l0.length : Int)
           · rw [if_pos c10] at H; have c10b0 := eq_true c10; have c10b1 : decide (x5_1 ≤ (l0.length : Int)) = true := decide_eq_true c10; clear c10; obtain ⟨y106, hy106⟩ : ∃ y_ : List Int, y_ = (l0.take (x5_1 : Int).toNat) := ⟨_, rfl⟩
             replace H : (if y103.length + y106.length < 17592186044416 then ((some (y103 ++ y106 : List Int)).bind fun y110 => (if y110.length < 17592186044416 then ((some (y110 ++ [a1] : List Int)).bind fun y113 => ((some (l0.drop (x5_1 : Int).toNat : List Int)).bind fun y116 => (if y113.length + y116.length < 17592186044416 then (some (y113 ++ y116)) else (none)))) else (none))) else (none)) = some r := by first | (rw [hy106]; with_reducible exact H) | (have H2_ := (Option.bind_some _ _).symm.trans H; rw [hy106]; with_reducible exact H2_) | (have H2_ := (Option.bind_some _ _).symm.trans H; with_reducible exact H2_) | with_reducible exact H | (rw [hy106]; exact H) | exact H
             have Ny106 := Aside0.mk hy106; clear hy106; by_cases c11 : y103.length + y106.length < 17592186044416
             · rw [if_pos c11] at H; have LMc11 := Aside0.mk c11; clear c11; obtain ⟨y110, hy110⟩ : ∃ y_ : List Int, y_ = (y103 ++ y106) := ⟨_, rfl⟩
               replace H : (if y110.length < 17592186044416 then ((some (y110 ++ [a1] : List Int)).bind fun y113 => ((some (l0.drop (x5_1 : Int).toNat : List Int)).bind fun y116 => (if y113.length + y116.length < 17592186044416 then (some (y113 ++ y116)) else (none)))) else (none)) = some r := by first | (rw [hy110]; with_reducible exact H) | (have H2_ := (Option.bind_some _ _).symm.trans H; rw [hy110]; with_reducible exact H2_) | (have H2_ := (Option.bind_some _ _).symm.trans H; with_reducible exact H2_) | with_reducible exact H | (rw [hy110]; exact H) | exact H
               have Ny110 := Aside0.mk hy110; clear hy110; by_cases c12 : y110.length < 17592186044416
               · rw [if_pos c12] at H; have LMc12 := Aside0.mk c12; clear c12; obtain ⟨y113, hy113⟩ : ∃ y_ : List Int, y_ = (y110 ++ [a1]) := ⟨_, rfl⟩
                 replace H : ((some (l0.drop (x5_1 : Int).toNat : List Int)).bind fun y116 => (if y113.length + y116.length < 17592186044416 then (some (y113 ++ y116)) else (none))) = some r := by first | (rw [hy113]; with_reducible exact H) | (have H2_ := (Option.bind_some _ _).symm.trans H; rw [hy113]; with_reducible exact H2_) | (have H2_ := (Option.bind_some _ _).symm.trans H; with_reducible exact H2_) | with_reducible exact H | (rw [hy113]; exact H) | exact H
                 have Ny113 := Aside0.mk hy113; clear hy113; have c13b0 := eq_true (of_decide_eq_true (by assumption) : 0 ≤ x5_1); have c14b0 := eq_true (of_decide_eq_true (by assumption) : x5_1 ≤ (l0.length : Int)); obtain ⟨y116, hy116⟩ : ∃ y_ : List Int, y_ = (l0.drop (x5_1 : Int).toNat) := ⟨_, rfl⟩
                 replace H : (if y113.length + y116.length < 17592186044416 then (some (y113 ++ y116)) else (none)) = some r := by first | (rw [hy116]; with_reducible exact H) | (have H2_ := (Option.bind_some _ _).symm.trans H; rw [hy116]; with_reducible exact H2_) | (have H2_ := (Option.bind_some _ _).symm.trans H; with_reducible exact H2_) | with_reducible exact H | (rw [hy116]; exact H) | exact H
                 have Ny116 := Aside0.mk hy116; clear hy116; by_cases c15 : y113.length + y116.length < 17592186044416
                 · rw [if_pos c15] at H; have LMc15 := Aside0.mk c15; clear c15; obtain ⟨y120, hy120⟩ : ∃ y_ : List Int, y_ = (y113 ++ y116) := ⟨_, rfl⟩
                   replace H : (some y120) = some r := by first | (rw [hy120]; with_reducible exact H) | (have H2_ := (Option.bind_some _ _).symm.trans H; rw [hy120]; with_reducible exact H2_) | (have H2_ := (Option.bind_some _ _).symm.trans H; with_reducible exact H2_) | with_reducible exact H | (rw [hy120]; exact H) | exact H
                   have Ny120 := Aside0.mk hy120; clear hy120; obtain rfl := Option.some.inj H; obtain ⟨Ao16, co16, eo16⟩ := Kd.R_slice HO_0.out; subst eo16; have p101 : 0 ≤ (x5_1 : Int) := of_decide_eq_true (by assumption); have q101 : x5_1 < (l0.length : Int) := of_decide_eq_true (by assumption); obtain ⟨ad101, e101, hx101_0⟩ := Kd.at_int (Kd.R_reads' HO_0.out).2.2 x5_1 p101 q101; cases e101; replace p101 := eq_true p101; replace q101 := eq_true q101; have p102 : 0 ≤ (x5_1 : Int) := of_decide_eq_true (by assumption); have q102 : x5_1 < (l0.length : Int) := of_decide_eq_true (by assumption); obtain ⟨ad102, e102, hx102_0⟩ := Kd.at_int (Kd.R_reads' HO_0.out).2.2 x5_1 p102 q102; obtain rfl : ad101 = ad102 := (by injection e102)
                   replace p102 := eq_true p102; replace q102 := eq_true q102; go_wp2_with (first | ((with_reducible refine gate_dst (N := 34) rfl ?_); refine Kd.R_lit (Kd.int .i64) _ 3 ?hg (N := 34) ?hd (xs := ([] : List Int)) (inner := []) (ok := fun _ => True) (okp := fun _ => True) ?hr ?hp (fun _ hk => hk) trivial (Below.refl _ _) (Nat.le_refl _) (by simp) ?_; (case hd => rfl); (case hg => rfl); (case hr => first | (go_simp; done) | (go_simp; rfl)); (case hp => exact (Reps.none _ _)); intro v104 w17 ho18 hb hg_ hnew_; clear hg_ hnew_; (first | rw [← Ny103.out] at ho18 | (simp only [Int.reduceToNat] at ho18; rw [← Ny103.out] at ho18)); have n0_ := Aside0.mk (Kd.R_elder' (by (with_reducible repeat (first | apply Kd.R_alloc | apply Kd.R_drewN | apply Kd.R_drew)); exact HO_0.out) (Kd.R_base ho18) hb); have n1_ := Aside0.mk (Kd.R_lower (Kd.R_new' (Kd.R_newM (M := fun k_ => (P0_ k_ ∨ w.heap.size ≤ k_)) ho18 (by first | exact HK.out.1 | exact (show Kept w _ (fun k_ => P0_ k_) from by repeat (first | (with_reducible first | exact HK.out | apply Kept.alloc | apply Kept.drewN | apply Kept.drew) | exact HK.out)).1) (fun k_ h_ => .inr h_)) (Kd.R_lt (by (with_reducible repeat (first | apply Kd.R_alloc | apply Kd.R_drewN | apply Kd.R_drew)); exact HO_0.out))) (below_size (by repeat (first | (with_reducible first | exact HB.out | apply below_alloc | apply pw_below_drewN | apply below_drew1) | exact HB.out)))); have n2_ := Aside0.mk (Kept.below (S := (fun k_ => P0_ k_)) (by repeat (first | (with_reducible first | exact HK.out | apply Kept.alloc | apply Kept.drewN | apply Kept.drew) | exact HK.out)) hb); have n3_ := Aside0.mk (below_step (by repeat (first | (with_reducible first | exact HB.out | apply below_alloc | apply pw_below_drewN | apply below_drew1) | exact HB.out)) hb); clear HO_0; clear HK; clear HB; have HO_0 := n0_; have HO105 := n1_; have HK := n2_; have HB := n3_; clear n0_ n1_ n2_ n3_; clear hb ho18; have q19 : (x5_1 : Int) ≤ ((l0.length : Int) : Int) := of_decide_eq_true (by assumption); obtain ⟨i019, hi019, _, hsz19, _⟩ := info_parts info3; have hroom19 : l0.length ≤ co16 := (Kd.R_reads' HO_0.out).2.1; have hC19 : Kd.C (Kd.int .i64) _ (some ad101) l0.length l0 := (Kd.R_reads' HO_0.out).2.2; have hcut19 := cut_to (P := Try.prog) 23 3 .i64 Try.underlying23 hi019 (some ad101) l0.length co16 x5_1 (of_decide_eq_true (by assumption)) q19 hroom19; have hr19 := Kd.C_take (m := (x5_1 : Int).toNat) hC19 (by omega); have hy19 : y106.length = (x5_1 : Int).toNat := (by rw [Ny106.out, List.length_take]; omega); rw [← Ny106.out] at hr19; rw [← hy19] at hcut19; have HR109 := Aside0.mk hr19; have HC109 := Aside0.mk (show y106.length ≤ co16 from by omega); clear hr19 hC19 hroom19 hi019 hsz19; have KY19 := Aside0.mk hy19; clear hy19; have KL19 := Aside0.mk (show (x5_1 : Int).toNat ≤ l0.length from by omega); replace q19 := eq_true q19) | ((with_reducible refine gate_builtin (b := .append) (xs := #[.tmp 34, .tmp 37]) rfl ?_); at_builtin; refine Kd.R_append_rows (Kd.int .i64) (w0 := w0) w0.heap.size rfl (.tmp 34) (.tmp 37) 23 3 (.int .i64 0) 8 rfl Try.underlying23 info3 rfl (by decide) (by omega) v104 y103 y106 _ _ _ (fun k_ => (P0_ k_ ∨ w.heap.size ≤ k_) ∧ some k_ ≠ (.slice (some ad101) l0.length co16 : Value).ownBlock) (fun _ => False) rfl rfl ?aO ?aR (fun _ _ h => h) (fun _ h => h.elim) ?aF ?aB ?aS ?aL ?_; (case aR => repeat (first | exact (by repeat (first | (with_reducible exact HR109.out) | refine Kd.C_alloc ?_ _ | refine Kd.C_drewN ?_ _ | refine Kd.C_drew ?_ | exact HR109.out)) | refine Kd.C_alloc ?_ _ | refine Kd.C_drewN ?_ _ | refine Kd.C_drew ?_)); (case aB => exact (by repeat (first | (with_reducible first | exact HB.out | apply below_alloc | apply pw_below_drewN | apply below_drew1) | exact HB.out))); (case aF => exact (fun k_ hk => ⟨(.inr (Nat.le_trans (by first | exact HK.out.1 | exact (show Kept w _ (fun k_ => P0_ k_) from by repeat (first | (with_reducible first | exact HK.out | apply Kept.alloc | apply Kept.drewN | apply Kept.drew) | exact HK.out)).1) hk)), Kd.fresh' (Kd.R_lt (by (with_reducible repeat (first | apply Kd.R_alloc | apply Kd.R_drewN | apply Kd.R_drew)); exact HO_0.out)) k_ hk⟩)); (case aO => exact (by (with_reducible repeat (first | apply Kd.R_alloc | apply Kd.R_drewN | apply Kd.R_drew)); exact Kd.R_mono HO105.out (fun _ hk => ⟨hk.1.1, hk.2⟩))); (case aS => exact (below_size (by repeat (first | (with_reducible first | exact HB.out | apply below_alloc | apply pw_below_drewN | apply below_drew1) | exact HB.out)))); (case aL => have := LMc11.out; omega); intro v111 w20 ho hb hg hat; rw [← Ny110.out] at ho; have n0_ := Aside0.mk (Kd.R_after (ok := (fun k_ => (P0_ k_ ∨ w.heap.size ≤ k_))) (by (with_reducible repeat (first | apply Kd.R_alloc | apply Kd.R_drewN | apply Kd.R_drew)); exact HO_0.out) hg hat); have n1_ := Aside0.mk (hb); have n2_ := Aside0.mk (Kept.of_grown (S := (fun k_ => P0_ k_)) hg (by repeat (first | (with_reducible first | exact HK.out | apply Kept.alloc | apply Kept.drewN | apply Kept.drew) | exact HK.out)) (fun k_ e_ => (HO105.out.1 k_ e_).1.1)); have n3_ := Aside0.mk ((show Kd.C (Kd.int .i64) w20 (some ad101) y106.length y106 from by rw [Ny106.out]; exact Kd.C_take (m := (x5_1 : Int).toNat) ((Kd.R_reads' (Kd.R_after (ok := (fun k_ => (P0_ k_ ∨ w.heap.size ≤ k_))) (by (with_reducible repeat (first | apply Kd.R_alloc | apply Kd.R_drewN | apply Kd.R_drew)); exact HO_0.out) hg hat)).2.2) KL19.out)); have n4_ := Aside0.mk (ho); clear HO_0; clear HB; clear HK; clear HR109; clear HO105; have HO_0 := n0_; have HB := n1_; have HK := n2_; have HR109 := n3_; have HO112 := n4_; clear n0_ n1_ n2_ n3_ n4_; clear ho hb hg hat) | ((with_reducible refine gate_builtin (b := .append) (xs := #[.tmp 39, .tmp 41]) rfl ?_); at_builtin; refine Kd.R_append (Kd.int .i64) (w0 := w0) w0.heap.size rfl (.tmp 39) (.tmp 41) 23 3 (.int .i64 0) 8 rfl Try.underlying23 info3 rfl (by decide) (by omega) v111 y110 a1 [.int .i64 a1] (fun k_ => (P0_ k_ ∨ w.heap.size ≤ k_) ∧ some k_ ≠ (.slice (some ad101) l0.length co16 : Value).ownBlock) (fun _ => False) rfl rfl ?aP (fun _ hk => hk.elim) ?aF ?aO ?aB ?aS ?aL ?_; (case aP => exact rfl); (case aB => exact (by repeat (first | (with_reducible first | exact HB.out | apply below_alloc | apply pw_below_drewN | apply below_drew1) | exact HB.out))); (case aF => exact (fun k_ hk => ⟨(.inr (Nat.le_trans (by first | exact HK.out.1 | exact (show Kept w _ (fun k_ => P0_ k_) from by repeat (first | (with_reducible first | exact HK.out | apply Kept.alloc | apply Kept.drewN | apply Kept.drew) | exact HK.out)).1) hk)), Kd.fresh' (Kd.R_lt (by (with_reducible repeat (first | apply Kd.R_alloc | apply Kd.R_drewN | apply Kd.R_drew)); exact HO_0.out)) k_ hk⟩)); (case aO => exact (by (with_reducible repeat (first | apply Kd.R_alloc | apply Kd.R_drewN | apply Kd.R_drew)); exact HO112.out)); (case aS => exact (below_size (by repeat (first | (with_reducible first | exact HB.out | apply below_alloc | apply pw_below_drewN | apply below_drew1) | exact HB.out)))); (case aL => have := LMc12.out; omega); intro v114 w21 ho hb hg hat; rw [← Ny113.out] at ho; have n0_ := Aside0.mk (Kd.R_after (ok := (fun k_ => (P0_ k_ ∨ w.heap.size ≤ k_))) (by (with_reducible repeat (first | apply Kd.R_alloc | apply Kd.R_drewN | apply Kd.R_drew)); exact HO_0.out) hg hat); have n1_ := Aside0.mk (hb); have n2_ := Aside0.mk (Kept.of_grown (S := (fun k_ => P0_ k_)) hg (by repeat (first | (with_reducible first | exact HK.out | apply Kept.alloc | apply Kept.drewN | apply Kept.drew) | exact HK.out)) (fun k_ e_ => (HO112.out.1 k_ e_).1)); have n3_ := Aside0.mk ((show Kd.C (Kd.int .i64) w21 (some ad101) y106.length y106 from by rw [Ny106.out]; exact Kd.C_take (m := (x5_1 : Int).toNat) ((Kd.R_reads' (Kd.R_after (ok := (fun k_ => (P0_ k_ ∨ w.heap.size ≤ k_))) (by (with_reducible repeat (first | apply Kd.R_alloc | apply Kd.R_drewN | apply Kd.R_drew)); exact HO_0.out) hg hat)).2.2) KL19.out)); have n4_ := Aside0.mk (ho); clear HO_0; clear HB; clear HK; clear HR109; clear HO112; have HO_0 := n0_; have HB := n1_; have HK := n2_; have HR109 := n3_; have HO115 := n4_; clear n0_ n1_ n2_ n3_ n4_; clear ho hb hg hat; have q22 : (x5_1 : Int) ≤ ((l0.length : Int) : Int) := of_decide_eq_true (by assumption); obtain ⟨i022, hi022, _, hsz22, _⟩ := info_parts info3; have hroom22 : l0.length ≤ co16 := (Kd.R_reads' HO_0.out).2.1; have hC22 : Kd.C (Kd.int .i64) _ (some ad101) l0.length l0 := (Kd.R_reads' HO_0.out).2.2; have q022 : (0 : Int) ≤ (x5_1 : Int) := of_decide_eq_true (by assumption); have hcut22 := cut_from (P := Try.prog) 23 3 .i64 Try.underlying23 hi022 1 hsz22 (some ad101) l0.length co16 x5_1 q022 q22; have hr22 := Kd.C_drop (m := (x5_1 : Int).toNat) (c := co16) hC22 (by omega) hroom22; obtain ⟨A22, hA22⟩ : ∃ A1, A1 = (if co16 = (x5_1 : Int).toNat then (some ad101) else ((some ad101) : Option Addr).map (·.add ((x5_1 : Int).toNat * 1))) := ⟨_, rfl⟩; obtain ⟨c22, hc22⟩ : ∃ c1, c1 = co16 - (x5_1 : Int).toNat := ⟨_, rfl⟩; have hy22 : y116.length = l0.length - (x5_1 : Int).toNat := (by rw [Ny116.out, List.length_drop] <;> omega); rw [show (l0).drop (x5_1 : Int).toNat = y116 from Ny116.out.symm] at hr22; replace hr22 : Kd.C (Kd.int .i64) _ A22 y116.length y116 := (by rw [hA22]; exact hr22); rw [← hy22, ← hA22, ← hc22] at hcut22; have HR119 := Aside0.mk hr22; have HC119 := Aside0.mk (show y116.length ≤ c22 from by rw [hy22, hc22]; exact Nat.sub_le_sub_right hroom22 _); clear hr22 hC22 hroom22 hi022 hsz22 hc22; have KY22 := Aside0.mk hy22; have KA22 := Aside0.mk hA22; clear hy22 hA22; have KL22 := Aside0.mk (show (x5_1 : Int).toNat ≤ l0.length from by omega); replace q22 := eq_true q22) | ((with_reducible refine gate_builtin (b := .append) (xs := #[.tmp 43, .tmp 46]) rfl ?_); at_builtin; refine Kd.R_append_rows (Kd.int .i64) (w0 := w0) w0.heap.size rfl (.tmp 43) (.tmp 46) 23 3 (.int .i64 0) 8 rfl Try.underlying23 info3 rfl (by decide) (by omega) v114 y113 y116 _ _ _ (fun k_ => (P0_ k_ ∨ w.heap.size ≤ k_) ∧ some k_ ≠ (.slice (some ad101) l0.length co16 : Value).ownBlock) (fun _ => False) rfl rfl ?aO ?aR (fun _ _ h => h) (fun _ h => h.elim) ?aF ?aB ?aS ?aL ?_; (case aR => repeat (first | exact (by repeat (first | (with_reducible exact HR119.out) | refine Kd.C_alloc ?_ _ | refine Kd.C_drewN ?_ _ | refine Kd.C_drew ?_ | exact HR119.out)) | refine Kd.C_alloc ?_ _ | refine Kd.C_drewN ?_ _ | refine Kd.C_drew ?_)); (case aB => exact (by repeat (first | (with_reducible first | exact HB.out | apply below_alloc | apply pw_below_drewN | apply below_drew1) | exact HB.out))); (case aF => exact (fun k_ hk => ⟨(.inr (Nat.le_trans (by first | exact HK.out.1 | exact (show Kept w _ (fun k_ => P0_ k_) from by repeat (first | (with_reducible first | exact HK.out | apply Kept.alloc | apply Kept.drewN | apply Kept.drew) | exact HK.out)).1) hk)), Kd.fresh' (Kd.R_lt (by (with_reducible repeat (first | apply Kd.R_alloc | apply Kd.R_drewN | apply Kd.R_drew)); exact HO_0.out)) k_ hk⟩)); (case aO => exact (by (with_reducible repeat (first | apply Kd.R_alloc | apply Kd.R_drewN | apply Kd.R_drew)); exact HO115.out)); (case aS => exact (below_size (by repeat (first | (with_reducible first | exact HB.out | apply below_alloc | apply pw_below_drewN | apply below_drew1) | exact HB.out)))); (case aL => have := LMc15.out; omega); intro v121 w23 ho hb hg hat; rw [← Ny120.out] at ho; have n0_ := Aside0.mk (Kd.R_after (ok := (fun k_ => (P0_ k_ ∨ w.heap.size ≤ k_))) (by (with_reducible repeat (first | apply Kd.R_alloc | apply Kd.R_drewN | apply Kd.R_drew)); exact HO_0.out) hg hat); have n1_ := Aside0.mk (hb); have n2_ := Aside0.mk (Kept.of_grown (S := (fun k_ => P0_ k_)) hg (by repeat (first | (with_reducible first | exact HK.out | apply Kept.alloc | apply Kept.drewN | apply Kept.drew) | exact HK.out)) (fun k_ e_ => (HO115.out.1 k_ e_).1)); have n3_ := Aside0.mk ((show Kd.C (Kd.int .i64) w23 (some ad101) y106.length y106 from by rw [Ny106.out]; exact Kd.C_take (m := (x5_1 : Int).toNat) ((Kd.R_reads' (Kd.R_after (ok := (fun k_ => (P0_ k_ ∨ w.heap.size ≤ k_))) (by (with_reducible repeat (first | apply Kd.R_alloc | apply Kd.R_drewN | apply Kd.R_drew)); exact HO_0.out) hg hat)).2.2) KL19.out)); have n4_ := Aside0.mk ((show Kd.C (Kd.int .i64) w23 A22 y116.length y116 from by rw [Ny116.out, KA22.out]; exact Kd.C_drop (m := (x5_1 : Int).toNat) (c := co16) ((Kd.R_reads' (Kd.R_after (ok := (fun k_ => (P0_ k_ ∨ w.heap.size ≤ k_))) (by (with_reducible repeat (first | apply Kd.R_alloc | apply Kd.R_drewN | apply Kd.R_drew)); exact HO_0.out) hg hat)).2.2) KL22.out ((Kd.R_reads' (Kd.R_after (ok := (fun k_ => (P0_ k_ ∨ w.heap.size ≤ k_))) (by (with_reducible repeat (first | apply Kd.R_alloc | apply Kd.R_drewN | apply Kd.R_drew)); exact HO_0.out) hg hat)).2.1))); have n5_ := Aside0.mk (ho); clear HO_0; clear HB; clear HK; clear HR109; clear HR119; clear HO115; have HO_0 := n0_; have HB := n1_; have HK := n2_; have HR109 := n3_; have HR119 := n4_; have HO122 := n5_; clear n0_ n1_ n2_ n3_ n4_ n5_; clear ho hb hg hat)); go_ret; exact ⟨_, by first | rfl | (simp [errW_none, errW_some] <;> rfl) | (simp [*, errW_none, errW_some] <;> rfl), by (with_reducible repeat (first | apply Kd.R_alloc | apply Kd.R_drewN | apply Kd.R_drew)); exact Kd.R_mono HO122.out (fun _ hk => hk.1), by repeat (first | (with_reducible first | exact HB.out | apply below_alloc | apply pw_below_drewN | apply below_drew1) | exact HB.out), by repeat (first | (with_reducible first | exact HK.out | apply Kept.alloc | apply Kept.drewN | apply Kept.drew) | exact HK.out)⟩
                 · rw [if_neg c15] at H; exact absurd H (by simp)
               · rw [if_neg c12] at H; exact absurd H (by simp)
             · rw [if_neg c11] at H; exact absurd H (by simp)
           · rw [if_neg c10] at H; exact absurd H (by simp)
     · rw [if_neg c4] at H; exact absurd H (by simp)
   · rw [if_neg c3] at H; have c3b0 : decide (x5_1 < (l0.length : Int)) = false := decide_eq_false c3; clear c3; obtain ⟨y123, hy123⟩ : ∃ y_ : List Int, y_ = (([] : List Int)) := ⟨_, rfl⟩
     replace H : (if 0 ≤ x5_1 then (if x5_1 ≤ (l0.length : Int) then ((some (l0.take (x5_1 : Int).toNat : List Int)).bind fun y126 => (if y123.length + y126.length < 17592186044416 then ((some (y123 ++ y126 : List Int)).bind fun y130 => (if y130.length < 17592186044416 then ((some (y130 ++ [a1] : List Int)).bind fun y133 => ((some (l0.drop (x5_1 : Int).toNat : List Int)).bind fun y136 => (if y133.length + y136.length < 17592186044416 then (some (y133 ++ y136)) else (none)))) else (none))) else (none))) else (none)) else (none)) = some r := by first | (rw [hy123]; with_reducible exact H) | (have H2_ := (Option.bind_some _ _).symm.trans H; rw [hy123]; with_reducible exact H2_) | (have H2_ := (Option.bind_some _ _).symm.trans H; with_reducible exact H2_) | with_reducible exact H | (rw [hy123]; exact H) | exact H
     have Ny123 := Aside0.mk hy123; clear hy123; by_cases c24 : 0 ≤ x5_1
     · rw [if_pos c24] at H; have c24b0 := eq_true c24; have c24b1 : decide (0 ≤ x5_1) = true := decide_eq_true c24; clear c24; by_cases c25 : x5_1 ≤ (l0.length : Int)
       · rw [if_pos c25] at H; have c25b0 := eq_true c25; have c25b1 : decide (x5_1 ≤ (l0.length : Int)) = true := decide_eq_true c25; clear c25; obtain ⟨y126, hy126⟩ : ∃ y_ : List Int, y_ = (l0.take (x5_1 : Int).toNat) := ⟨_, rfl⟩
         replace H : (if y123.length + y126.length < 17592186044416 then ((some (y123 ++ y126 : List Int)).bind fun y130 => (if y130.length < 17592186044416 then ((some (y130 ++ [a1] : List Int)).bind fun y133 => ((some (l0.drop (x5_1 : Int).toNat : List Int)).bind fun y136 => (if y133.length + y136.length < 17592186044416 then (some (y133 ++ y136)) else (none)))) else (none))) else (none)) = some r := by first | (rw [hy126]; with_reducible exact H) | (have H2_ := (Option.bind_some _ _).symm.trans H; rw [hy126]; with_reducible exact H2_) | (have H2_ := (Option.bind_some _ _).symm.trans H; with_reducible exact H2_) | with_reducible exact H | (rw [hy126]; exact H) | exact H
         have Ny126 := Aside0.mk hy126; clear hy126; by_cases c26 : y123.length + y126.length < 17592186044416
         · rw [if_pos c26] at H; have LMc26 := Aside0.mk c26; clear c26; obtain ⟨y130, hy130⟩ : ∃ y_ : List Int, y_ = (y123 ++ y126) := ⟨_, rfl⟩
           replace H : (if y130.length < 17592186044416 then ((some (y130 ++ [a1] : List Int)).bind fun y133 => ((some (l0.drop (x5_1 : Int).toNat : List Int)).bind fun y136 => (if y133.length + y136.length < 17592186044416 then (some (y133 ++ y136)) else (none)))) else (none)) = some r := by first | (rw [hy130]; with_reducible exact H) | (have H2_ := (Option.bind_some _ _).symm.trans H; rw [hy130]; with_reducible exact H2_) | (have H2_ := (Option.bind_some _ _).symm.trans H; with_reducible exact H2_) | with_reducible exact H | (rw [hy130]; exact H) | exact H
           have Ny130 := Aside0.mk hy130; clear hy130; by_cases c27 : y130.length < 17592186044416
           · rw [if_pos c27] at H; have LMc27 := Aside0.mk c27; clear c27; obtain ⟨y133, hy133⟩ : ∃ y_ : List Int, y_ = (y130 ++ [a1]) := ⟨_, rfl⟩
             replace H : ((some (l0.drop (x5_1 : Int).toNat : List Int)).bind fun y136 => (if y133.length + y136.length < 17592186044416 then (some (y133 ++ y136)) else (none))) = some r := by first | (rw [hy133]; with_reducible exact H) | (have H2_ := (Option.bind_some _ _).symm.trans H; rw [hy133]; with_reducible exact H2_) | (have H2_ := (Option.bind_some _ _).symm.trans H; with_reducible exact H2_) | with_reducible exact H | (rw [hy133]; exact H) | exact H
             have Ny133 := Aside0.mk hy133; clear hy133; have c28b0 := eq_true (of_decide_eq_true (by assumption) : 0 ≤ x5_1); have c29b0 := eq_true (of_decide_eq_true (by assumption) : x5_1 ≤ (l0.length : Int)); obtain ⟨y136, hy136⟩ : ∃ y_ : List Int, y_ = (l0.drop (x5_1 : Int).toNat) := ⟨_, rfl⟩
             replace H : (if y133.length + y136.length < 17592186044416 then (some (y133 ++ y136)) else (none)) = some r := by first | (rw [hy136]; with_reducible exact H) | (have H2_ := (Option.bind_some _ _).symm.trans H; rw [hy136]; with_reducible exact H2_) | (have H2_ := (Option.bind_some _ _).symm.trans H; with_reducible exact H2_) | with_reducible exact H | (rw [hy136]; exact H) | exact H
             have Ny136 := Aside0.mk hy136; clear hy136; by_cases c30 : y133.length + y136.length < 17592186044416
             · rw [if_pos c30] at H; have LMc30 := Aside0.mk c30; clear c30; obtain ⟨y140, hy140⟩ : ∃ y_ : List Int, y_ = (y133 ++ y136) := ⟨_, rfl⟩
               replace H : (some y140) = some r := by first | (rw [hy140]; with_reducible exact H) | (have H2_ := (Option.bind_some _ _).symm.trans H; rw [hy140]; with_reducible exact H2_) | (have H2_ := (Option.bind_some _ _).symm.trans H; with_reducible exact H2_) | with_reducible exact H | (rw [hy140]; exact H) | exact H
               have Ny140 := Aside0.mk hy140; clear hy140; obtain rfl := Option.some.inj H; obtain ⟨Ao31, co31, eo31⟩ := Kd.R_slice HO_0.out; subst eo31; go_wp2_with (first | ((with_reducible refine gate_dst (N := 34) rfl ?_); refine Kd.R_lit (Kd.int .i64) _ 3 ?hg (N := 34) ?hd (xs := ([] : List Int)) (inner := []) (ok := fun _ => True) (okp := fun _ => True) ?hr ?hp (fun _ hk => hk) trivial (Below.refl _ _) (Nat.le_refl _) (by simp) ?_; (case hd => rfl); (case hg => rfl); (case hr => first | (go_simp; done) | (go_simp; rfl)); (case hp => exact (Reps.none _ _)); intro v124 w32 ho33 hb hg_ hnew_; clear hg_ hnew_; (first | rw [← Ny123.out] at ho33 | (simp only [Int.reduceToNat] at ho33; rw [← Ny123.out] at ho33)); have n0_ := Aside0.mk (Kd.R_elder' (by (with_reducible repeat (first | apply Kd.R_alloc | apply Kd.R_drewN | apply Kd.R_drew)); exact HO_0.out) (Kd.R_base ho33) hb); have n1_ := Aside0.mk (Kd.R_lower (Kd.R_new' (Kd.R_newM (M := fun k_ => (P0_ k_ ∨ w.heap.size ≤ k_)) ho33 (by first | exact HK.out.1 | exact (show Kept w _ (fun k_ => P0_ k_) from by repeat (first | (with_reducible first | exact HK.out | apply Kept.alloc | apply Kept.drewN | apply Kept.drew) | exact HK.out)).1) (fun k_ h_ => .inr h_)) (Kd.R_lt (by (with_reducible repeat (first | apply Kd.R_alloc | apply Kd.R_drewN | apply Kd.R_drew)); exact HO_0.out))) (below_size (by repeat (first | (with_reducible first | exact HB.out | apply below_alloc | apply pw_below_drewN | apply below_drew1) | exact HB.out)))); have n2_ := Aside0.mk (Kept.below (S := (fun k_ => P0_ k_)) (by repeat (first | (with_reducible first | exact HK.out | apply Kept.alloc | apply Kept.drewN | apply Kept.drew) | exact HK.out)) hb); have n3_ := Aside0.mk (below_step (by repeat (first | (with_reducible first | exact HB.out | apply below_alloc | apply pw_below_drewN | apply below_drew1) | exact HB.out)) hb); clear HO_0; clear HK; clear HB; have HO_0 := n0_; have HO125 := n1_; have HK := n2_; have HB := n3_; clear n0_ n1_ n2_ n3_; clear hb ho33; have q34 : (x5_1 : Int) ≤ ((l0.length : Int) : Int) := of_decide_eq_true (by assumption); obtain ⟨i034, hi034, _, hsz34, _⟩ := info_parts info3; have hroom34 : l0.length ≤ co31 := (Kd.R_reads' HO_0.out).2.1; have hC34 : Kd.C (Kd.int .i64) _ Ao31 l0.length l0 := (Kd.R_reads' HO_0.out).2.2; have hcut34 := cut_to (P := Try.prog) 23 3 .i64 Try.underlying23 hi034 Ao31 l0.length co31 x5_1 (of_decide_eq_true (by assumption)) q34 hroom34; have hr34 := Kd.C_take (m := (x5_1 : Int).toNat) hC34 (by omega); have hy34 : y126.length = (x5_1 : Int).toNat := (by rw [Ny126.out, List.length_take]; omega); rw [← Ny126.out] at hr34; rw [← hy34] at hcut34; have HR129 := Aside0.mk hr34; have HC129 := Aside0.mk (show y126.length ≤ co31 from by omega); clear hr34 hC34 hroom34 hi034 hsz34; have KY34 := Aside0.mk hy34; clear hy34; have KL34 := Aside0.mk (show (x5_1 : Int).toNat ≤ l0.length from by omega); replace q34 := eq_true q34) | ((with_reducible refine gate_builtin (b := .append) (xs := #[.tmp 34, .tmp 37]) rfl ?_); at_builtin; refine Kd.R_append_rows (Kd.int .i64) (w0 := w0) w0.heap.size rfl (.tmp 34) (.tmp 37) 23 3 (.int .i64 0) 8 rfl Try.underlying23 info3 rfl (by decide) (by omega) v124 y123 y126 _ _ _ (fun k_ => (P0_ k_ ∨ w.heap.size ≤ k_) ∧ some k_ ≠ (.slice Ao31 l0.length co31 : Value).ownBlock) (fun _ => False) rfl rfl ?aO ?aR (fun _ _ h => h) (fun _ h => h.elim) ?aF ?aB ?aS ?aL ?_; (case aR => repeat (first | exact (by repeat (first | (with_reducible exact HR129.out) | refine Kd.C_alloc ?_ _ | refine Kd.C_drewN ?_ _ | refine Kd.C_drew ?_ | exact HR129.out)) | refine Kd.C_alloc ?_ _ | refine Kd.C_drewN ?_ _ | refine Kd.C_drew ?_)); (case aB => exact (by repeat (first | (with_reducible first | exact HB.out | apply below_alloc | apply pw_below_drewN | apply below_drew1) | exact HB.out))); (case aF => exact (fun k_ hk => ⟨(.inr (Nat.le_trans (by first | exact HK.out.1 | exact (show Kept w _ (fun k_ => P0_ k_) from by repeat (first | (with_reducible first | exact HK.out | apply Kept.alloc | apply Kept.drewN | apply Kept.drew) | exact HK.out)).1) hk)), Kd.fresh' (Kd.R_lt (by (with_reducible repeat (first | apply Kd.R_alloc | apply Kd.R_drewN | apply Kd.R_drew)); exact HO_0.out)) k_ hk⟩)); (case aO => exact (by (with_reducible repeat (first | apply Kd.R_alloc | apply Kd.R_drewN | apply Kd.R_drew)); exact Kd.R_mono HO125.out (fun _ hk => ⟨hk.1.1, hk.2⟩))); (case aS => exact (below_size (by repeat (first | (with_reducible first | exact HB.out | apply below_alloc | apply pw_below_drewN | apply below_drew1) | exact HB.out)))); (case aL => have := LMc26.out; omega); intro v131 w35 ho hb hg hat; rw [← Ny130.out] at ho; have n0_ := Aside0.mk (Kd.R_after (ok := (fun k_ => (P0_ k_ ∨ w.heap.size ≤ k_))) (by (with_reducible repeat (first | apply Kd.R_alloc | apply Kd.R_drewN | apply Kd.R_drew)); exact HO_0.out) hg hat); have n1_ := Aside0.mk (hb); have n2_ := Aside0.mk (Kept.of_grown (S := (fun k_ => P0_ k_)) hg (by repeat (first | (with_reducible first | exact HK.out | apply Kept.alloc | apply Kept.drewN | apply Kept.drew) | exact HK.out)) (fun k_ e_ => (HO125.out.1 k_ e_).1.1)); have n3_ := Aside0.mk ((show Kd.C (Kd.int .i64) w35 Ao31 y126.length y126 from by rw [Ny126.out]; exact Kd.C_take (m := (x5_1 : Int).toNat) ((Kd.R_reads' (Kd.R_after (ok := (fun k_ => (P0_ k_ ∨ w.heap.size ≤ k_))) (by (with_reducible repeat (first | apply Kd.R_alloc | apply Kd.R_drewN | apply Kd.R_drew)); exact HO_0.out) hg hat)).2.2) KL34.out)); have n4_ := Aside0.mk (ho); clear HO_0; clear HB; clear HK; clear HR129; clear HO125; have HO_0 := n0_; have HB := n1_; have HK := n2_; have HR129 := n3_; have HO132 := n4_; clear n0_ n1_ n2_ n3_ n4_; clear ho hb hg hat) | ((with_reducible refine gate_builtin (b := .append) (xs := #[.tmp 39, .tmp 41]) rfl ?_); at_builtin; refine Kd.R_append (Kd.int .i64) (w0 := w0) w0.heap.size rfl (.tmp 39) (.tmp 41) 23 3 (.int .i64 0) 8 rfl Try.underlying23 info3 rfl (by decide) (by omega) v131 y130 a1 [.int .i64 a1] (fun k_ => (P0_ k_ ∨ w.heap.size ≤ k_) ∧ some k_ ≠ (.slice Ao31 l0.length co31 : Value).ownBlock) (fun _ => False) rfl rfl ?aP (fun _ hk => hk.elim) ?aF ?aO ?aB ?aS ?aL ?_; (case aP => exact rfl); (case aB => exact (by repeat (first | (with_reducible first | exact HB.out | apply below_alloc | apply pw_below_drewN | apply below_drew1) | exact HB.out))); (case aF => exact (fun k_ hk => ⟨(.inr (Nat.le_trans (by first | exact HK.out.1 | exact (show Kept w _ (fun k_ => P0_ k_) from by repeat (first | (with_reducible first | exact HK.out | apply Kept.alloc | apply Kept.drewN | apply Kept.drew) | exact HK.out)).1) hk)), Kd.fresh' (Kd.R_lt (by (with_reducible repeat (first | apply Kd.R_alloc | apply Kd.R_drewN | apply Kd.R_drew)); exact HO_0.out)) k_ hk⟩)); (case aO => exact (by (with_reducible repeat (first | apply Kd.R_alloc | apply Kd.R_drewN | apply Kd.R_drew)); exact HO132.out)); (case aS => exact (below_size (by repeat (first | (with_reducible first | exact HB.out | apply below_alloc | apply pw_below_drewN | apply below_drew1) | exact HB.out)))); (case aL => have := LMc27.out; omega); intro v134 w36 ho hb hg hat; rw [← Ny133.out] at ho; have n0_ := Aside0.mk (Kd.R_after (ok := (fun k_ => (P0_ k_ ∨ w.heap.size ≤ k_))) (by (with_reducible repeat (first | apply Kd.R_alloc | apply Kd.R_drewN | apply Kd.R_drew)); exact HO_0.out) hg hat); have n1_ := Aside0.mk (hb); have n2_ := Aside0.mk (Kept.of_grown (S := (fun k_ => P0_ k_)) hg (by repeat (first | (with_reducible first | exact HK.out | apply Kept.alloc | apply Kept.drewN | apply Kept.drew) | exact HK.out)) (fun k_ e_ => (HO132.out.1 k_ e_).1)); have n3_ := Aside0.mk ((show Kd.C (Kd.int .i64) w36 Ao31 y126.length y126 from by rw [Ny126.out]; exact Kd.C_take (m := (x5_1 : Int).toNat) ((Kd.R_reads' (Kd.R_after (ok := (fun k_ => (P0_ k_ ∨ w.heap.size ≤ k_))) (by (with_reducible repeat (first | apply Kd.R_alloc | apply Kd.R_drewN | apply Kd.R_drew)); exact HO_0.out) hg hat)).2.2) KL34.out)); have n4_ := Aside0.mk (ho); clear HO_0; clear HB; clear HK; clear HR129; clear HO132; have HO_0 := n0_; have HB := n1_; have HK := n2_; have HR129 := n3_; have HO135 := n4_; clear n0_ n1_ n2_ n3_ n4_; clear ho hb hg hat; have q37 : (x5_1 : Int) ≤ ((l0.length : Int) : Int) := of_decide_eq_true (by assumption); obtain ⟨i037, hi037, _, hsz37, _⟩ := info_parts info3; have hroom37 : l0.length ≤ co31 := (Kd.R_reads' HO_0.out).2.1; have hC37 : Kd.C (Kd.int .i64) _ Ao31 l0.length l0 := (Kd.R_reads' HO_0.out).2.2; have q037 : (0 : Int) ≤ (x5_1 : Int) := of_decide_eq_true (by assumption); have hcut37 := cut_from (P := Try.prog) 23 3 .i64 Try.underlying23 hi037 1 hsz37 Ao31 l0.length co31 x5_1 q037 q37; have hr37 := Kd.C_drop (m := (x5_1 : Int).toNat) (c := co31) hC37 (by omega) hroom37; obtain ⟨A37, hA37⟩ : ∃ A1, A1 = (if co31 = (x5_1 : Int).toNat then Ao31 else (Ao31 : Option Addr).map (·.add ((x5_1 : Int).toNat * 1))) := ⟨_, rfl⟩; obtain ⟨c37, hc37⟩ : ∃ c1, c1 = co31 - (x5_1 : Int).toNat := ⟨_, rfl⟩; have hy37 : y136.length = l0.length - (x5_1 : Int).toNat := (by rw [Ny136.out, List.length_drop] <;> omega); rw [show (l0).drop (x5_1 : Int).toNat = y136 from Ny136.out.symm] at hr37; replace hr37 : Kd.C (Kd.int .i64) _ A37 y136.length y136 := (by rw [hA37]; exact hr37); rw [← hy37, ← hA37, ← hc37] at hcut37; have HR139 := Aside0.mk hr37; have HC139 := Aside0.mk (show y136.length ≤ c37 from by rw [hy37, hc37]; exact Nat.sub_le_sub_right hroom37 _); clear hr37 hC37 hroom37 hi037 hsz37 hc37; have KY37 := Aside0.mk hy37; have KA37 := Aside0.mk hA37; clear hy37 hA37; have KL37 := Aside0.mk (show (x5_1 : Int).toNat ≤ l0.length from by omega); replace q37 := eq_true q37) | ((with_reducible refine gate_builtin (b := .append) (xs := #[.tmp 43, .tmp 46]) rfl ?_); at_builtin; refine Kd.R_append_rows (Kd.int .i64) (w0 := w0) w0.heap.size rfl (.tmp 43) (.tmp 46) 23 3 (.int .i64 0) 8 rfl Try.underlying23 info3 rfl (by decide) (by omega) v134 y133 y136 _ _ _ (fun k_ => (P0_ k_ ∨ w.heap.size ≤ k_) ∧ some k_ ≠ (.slice Ao31 l0.length co31 : Value).ownBlock) (fun _ => False) rfl rfl ?aO ?aR (fun _ _ h => h) (fun _ h => h.elim) ?aF ?aB ?aS ?aL ?_; (case aR => repeat (first | exact (by repeat (first | (with_reducible exact HR139.out) | refine Kd.C_alloc ?_ _ | refine Kd.C_drewN ?_ _ | refine Kd.C_drew ?_ | exact HR139.out)) | refine Kd.C_alloc ?_ _ | refine Kd.C_drewN ?_ _ | refine Kd.C_drew ?_)); (case aB => exact (by repeat (first | (with_reducible first | exact HB.out | apply below_alloc | apply pw_below_drewN | apply below_drew1) | exact HB.out))); (case aF => exact (fun k_ hk => ⟨(.inr (Nat.le_trans (by first | exact HK.out.1 | exact (show Kept w _ (fun k_ => P0_ k_) from by repeat (first | (with_reducible first | exact HK.out | apply Kept.alloc | apply Kept.drewN | apply Kept.drew) | exact HK.out)).1) hk)), Kd.fresh' (Kd.R_lt (by (with_reducible repeat (first | apply Kd.R_alloc | apply Kd.R_drewN | apply Kd.R_drew)); exact HO_0.out)) k_ hk⟩)); (case aO => exact (by (with_reducible repeat (first | apply Kd.R_alloc | apply Kd.R_drewN | apply Kd.R_drew)); exact HO135.out)); (case aS => exact (below_size (by repeat (first | (with_reducible first | exact HB.out | apply below_alloc | apply pw_below_drewN | apply below_drew1) | exact HB.out)))); (case aL => have := LMc30.out; omega); intro v141 w38 ho hb hg hat; rw [← Ny140.out] at ho; have n0_ := Aside0.mk (Kd.R_after (ok := (fun k_ => (P0_ k_ ∨ w.heap.size ≤ k_))) (by (with_reducible repeat (first | apply Kd.R_alloc | apply Kd.R_drewN | apply Kd.R_drew)); exact HO_0.out) hg hat); have n1_ := Aside0.mk (hb); have n2_ := Aside0.mk (Kept.of_grown (S := (fun k_ => P0_ k_)) hg (by repeat (first | (with_reducible first | exact HK.out | apply Kept.alloc | apply Kept.drewN | apply Kept.drew) | exact HK.out)) (fun k_ e_ => (HO135.out.1 k_ e_).1)); have n3_ := Aside0.mk ((show Kd.C (Kd.int .i64) w38 Ao31 y126.length y126 from by rw [Ny126.out]; exact Kd.C_take (m := (x5_1 : Int).toNat) ((Kd.R_reads' (Kd.R_after (ok := (fun k_ => (P0_ k_ ∨ w.heap.size ≤ k_))) (by (with_reducible repeat (first | apply Kd.R_alloc | apply Kd.R_drewN | apply Kd.R_drew)); exact HO_0.out) hg hat)).2.2) KL34.out)); have n4_ := Aside0.mk ((show Kd.C (Kd.int .i64) w38 A37 y136.length y136 from by rw [Ny136.out, KA37.out]; exact Kd.C_drop (m := (x5_1 : Int).toNat) (c := co31) ((Kd.R_reads' (Kd.R_after (ok := (fun k_ => (P0_ k_ ∨ w.heap.size ≤ k_))) (by (with_reducible repeat (first | apply Kd.R_alloc | apply Kd.R_drewN | apply Kd.R_drew)); exact HO_0.out) hg hat)).2.2) KL37.out ((Kd.R_reads' (Kd.R_after (ok := (fun k_ => (P0_ k_ ∨ w.heap.size ≤ k_))) (by (with_reducible repeat (first | apply Kd.R_alloc | apply Kd.R_drewN | apply Kd.R_drew)); exact HO_0.out) hg hat)).2.1))); have n5_ := Aside0.mk (ho); clear HO_0; clear HB; clear HK; clear HR129; clear HR139; clear HO135; have HO_0 := n0_; have HB := n1_; have HK := n2_; have HR129 := n3_; have HR139 := n4_; have HO142 := n5_; clear n0_ n1_ n2_ n3_ n4_ n5_; clear ho hb hg hat)); go_ret; exact ⟨_, by first | rfl | (simp [errW_none, errW_some] <;> rfl) | (simp [*, errW_none, errW_some] <;> rfl), by (with_reducible repeat (first | apply Kd.R_alloc | apply Kd.R_drewN | apply Kd.R_drew)); exact Kd.R_mono HO142.out (fun _ hk => hk.1), by repeat (first | (with_reducible first | exact HB.out | apply below_alloc | apply pw_below_drewN | apply below_drew1) | exact HB.out), by repeat (first | (with_reducible first | exact HK.out | apply Kept.alloc | apply Kept.drewN | apply Kept.drew) | exact HK.out)⟩
             · rw [if_neg c30] at H; exact absurd H (by simp)
           · rw [if_neg c27] at H; exact absurd H (by simp)
         · rw [if_neg c26] at H; exact absurd H (by simp)
       · rw [if_neg c25] at H; exact absurd H (by simp)
     · rw [if_neg c24] at H; exact absurd H (by simp)
def spec_l1Has.l0 : Nat → Int → List Int → Int → Int → Option (Bool)
 | 0, _, _, _, _ => none
 | k + 1, x1, x7, x8, x9 => if x9 < x8 then (if 0 ≤ x9 then (if x9 < (x7.length : Int) then (if (rd x7 x9) = x1 then (some true) else (spec_l1Has.l0 k x1 x7 x8 (wrap64 (x9 + 1)))) else (none)) else (none)) else (some false)
def spec_l1Has.f (k : Nat) (l0 : List Int) (a1 : Int) : Option (Bool) := spec_l1Has.l0 k a1 l0 (l0.length : Int) 0
set_option maxHeartbeats 8000000 in
set_option maxRecDepth 100000 in
theorem spec_l1Has.calls (k : Nat) (A0 : Option Addr) (c0 : Nat) (l0 : List Int) (a1 : Int) (r : Bool) (w : World) (hr0 : Kd.C (Kd.int .i64) w A0 l0.length l0) (hc0 : l0.length ≤ c0) (h : spec_l1Has.f k l0 a1 = some r) :
 Calls Try.prog 63 #[.slice A0 l0.length c0, .int .i64 a1] w fun e w' => e = .returned (.bool r) ∧ Drawn0 w w' := by
 have HR0 := Aside0.mk hr0; have HC0 := Aside0.mk hc0; clear hr0 hc0; have H : (spec_l1Has.l0 k a1 l0 (l0.length : Int) 0) = some r := h; clear h; have H' := Aside0.mk H; clear H; go_enter Try.func63, Try.ntmps63; go_wp2; go_loopg [9] k (fun kq v9 w' => ∃ (x9_1 : Int), v9 = .int .i64 x9_1 ∧ Aside0 (spec_l1Has.l0 kq a1 l0 (l0.length : Int) x9_1 = some r) ∧ Aside0 (kq ≤ k) ∧ Drawn0 w w')
 case atStart => exact ⟨(0), (by first | rfl | (simp; done) | (simp [*]; done)), H', ⟨Nat.le_refl _⟩, by repeat (first | exact Drawn0.refl _ | apply Drawn0.step)⟩
 case round =>
  clear H'; (try clear p2); obtain ⟨x9_1, rfl, HA, HK1, ⟨m1, rfl⟩⟩ := hrel; cases gk with
  | zero => exact absurd HA.out (by simp [spec_l1Has.l0])
  | succ k1 =>
   have H := HA.out; clear HA; simp only [spec_l1Has.l0] at H; by_cases c3 : x9_1 < (l0.length : Int)
   · rw [if_pos c3] at H; have c3b0 : decide (x9_1 < (l0.length : Int)) = true := decide_eq_true c3; clear c3; by_cases c4 : 0 ≤ x9_1
     · rw [if_pos c4] at H; have c4b0 : decide (0 ≤ x9_1) = true := decide_eq_true c4; clear c4; by_cases c5 : x9_1 < (l0.length : Int)
       · rw [if_pos c5] at H; have c5b0 : decide (x9_1 < (l0.length : Int)) = true := decide_eq_true c5; clear c5; by_cases c6 : (rd l0 x9_1) = a1
         · rw [if_pos c6] at H; have c6b0 : ((rd l0 x9_1) == a1) = true := beq_iff_eq.mpr c6; have c6b1 : ((rd l0 x9_1) != a1) = false := bne_eq_false_iff_eq.mpr c6; clear c6; obtain rfl := Option.some.inj H; have p101 : 0 ≤ (x9_1 : Int) := of_decide_eq_true (by assumption); have q101 : x9_1 < (l0.length : Int) := of_decide_eq_true (by assumption); obtain ⟨ad101, e101, hx101_0⟩ := Kd.at_int HR0.out x9_1 p101 q101; cases e101; replace p101 := eq_true p101; replace q101 := eq_true q101; go_wp2; go_ret; exact ⟨by first | rfl | (simp; done) | (simp [*]; done), by repeat (first | exact Drawn0.refl _ | apply Drawn0.step)⟩
         · rw [if_neg c6] at H; have c6b0 : ((rd l0 x9_1) == a1) = false := beq_eq_false_iff_ne.mpr c6; have c6b1 : ((rd l0 x9_1) != a1) = true := bne_iff_ne.mpr c6; have H' := Aside0.mk H; clear H; have p101 : 0 ≤ (x9_1 : Int) := of_decide_eq_true (by assumption); have q101 : x9_1 < (l0.length : Int) := of_decide_eq_true (by assumption); obtain ⟨ad101, e101, hx101_0⟩ := Kd.at_int HR0.out x9_1 p101 q101; cases e101; replace p101 := eq_true p101; replace q101 := eq_true q101; go_wp2
           go_roundg k1
           case measure => have := HK1.out; omega
           case rel => exact ⟨(wrap64 (x9_1 + 1)), (by first | rfl | (simp; done) | (simp [*]; done)), H', ⟨by have := HK1.out; omega⟩, by repeat (first | exact Drawn0.refl _ | apply Drawn0.step)⟩
       · rw [if_neg c5] at H; exact absurd H (by simp)
     · rw [if_neg c4] at H; exact absurd H (by simp)
   · rw [if_neg c3] at H; have c3b0 : decide (x9_1 < (l0.length : Int)) = false := decide_eq_false c3; clear c3; obtain rfl := Option.some.inj H; go_wp2; go_ret; exact ⟨by first | rfl | (simp; done) | (simp [*]; done), by repeat (first | exact Drawn0.refl _ | apply Drawn0.step)⟩
def spec_l1Own.f (l0 : List Int) : Option (List Int) := (some (([] : List Int) : List Int)).bind fun y101 => (if y101.length + l0.length < 17592186044416 then (some (y101 ++ l0)) else (none))
set_option maxHeartbeats 8000000 in
set_option maxRecDepth 100000 in
theorem spec_l1Own.calls (A0 : Option Addr) (c0 : Nat) (l0 : List Int) (r : List Int) (w : World) (hr0 : Kd.C (Kd.int .i64) w A0 l0.length l0) (hc0 : l0.length ≤ c0) (h : spec_l1Own.f l0 = some r) :
 Calls Try.prog 65 #[.slice A0 l0.length c0] w fun e w' => ∃ v0_ : Value, e = .returned (v0_) ∧ Kd.R (Kd.int .i64) 3 w' w.heap.size (fun _ => True) v0_ r ∧ Below w.heap.size w w' := by
 have HR0 := Aside0.mk hr0; have HC0 := Aside0.mk hc0; clear hr0 hc0; have HB := Aside0.mk (Below.refl w.heap.size w); have H : ((some (([] : List Int) : List Int)).bind fun y101 => (if y101.length + l0.length < 17592186044416 then (some (y101 ++ l0)) else (none))) = some r := h; clear h; obtain ⟨y101, hy101⟩ : ∃ y_ : List Int, y_ = (([] : List Int)) := ⟨_, rfl⟩
 replace H : (if y101.length + l0.length < 17592186044416 then (some (y101 ++ l0)) else (none)) = some r := by first | (rw [hy101]; with_reducible exact H) | (have H2_ := (Option.bind_some _ _).symm.trans H; rw [hy101]; with_reducible exact H2_) | (have H2_ := (Option.bind_some _ _).symm.trans H; with_reducible exact H2_) | with_reducible exact H | (rw [hy101]; exact H) | exact H
 have Ny101 := Aside0.mk hy101; clear hy101; by_cases c2 : y101.length + l0.length < 17592186044416
 · rw [if_pos c2] at H; have LMc2 := Aside0.mk c2; clear c2; obtain ⟨y104, hy104⟩ : ∃ y_ : List Int, y_ = (y101 ++ l0) := ⟨_, rfl⟩
   replace H : (some y104) = some r := by first | (rw [hy104]; with_reducible exact H) | (have H2_ := (Option.bind_some _ _).symm.trans H; rw [hy104]; with_reducible exact H2_) | (have H2_ := (Option.bind_some _ _).symm.trans H; with_reducible exact H2_) | with_reducible exact H | (rw [hy104]; exact H) | exact H
   have Ny104 := Aside0.mk hy104; clear hy104; obtain rfl := Option.some.inj H; go_enter Try.func65, Try.ntmps65; go_wp2_with (first | ((with_reducible refine gate_dst (N := 3) rfl ?_); refine Kd.R_lit (Kd.int .i64) _ 3 ?hg (N := 3) ?hd (xs := ([] : List Int)) (inner := []) (ok := fun _ => True) (okp := fun _ => True) ?hr ?hp (fun _ hk => hk) trivial (Below.refl _ _) (Nat.le_refl _) (by simp) ?_; (case hd => rfl); (case hg => rfl); (case hr => first | (go_simp; done) | (go_simp; rfl)); (case hp => exact (Reps.none _ _)); intro v102 w3 ho4 hb hg_ hnew_; clear hg_ hnew_; (first | rw [← Ny101.out] at ho4 | (simp only [Int.reduceToNat] at ho4; rw [← Ny101.out] at ho4)); have n0_ := Aside0.mk (Kd.R_lower ho4 (below_size (by repeat (first | (with_reducible first | exact HB.out | apply below_alloc | apply pw_below_drewN | apply below_drew1) | exact HB.out)))); have n1_ := Aside0.mk (below_step (by repeat (first | (with_reducible first | exact HB.out | apply below_alloc | apply pw_below_drewN | apply below_drew1) | exact HB.out)) hb); clear HB; have HO103 := n0_; have HB := n1_; clear n0_ n1_; clear hb ho4) | ((with_reducible refine gate_builtin (b := .append) (xs := #[.tmp 3, .tmp 4]) rfl ?_); at_builtin; refine Kd.R_append_rows (Kd.int .i64) (w0 := w) w.heap.size rfl (.tmp 3) (.tmp 4) 23 3 (.int .i64 0) 8 rfl Try.underlying23 info3 rfl (by decide) (by omega) v102 y101 l0 _ _ _ (fun _ => True) (fun _ => False) rfl rfl ?aO ?aR (fun _ _ h => h) (fun _ h => h.elim) ?aF ?aB ?aS ?aL ?_; (case aR => repeat (first | exact (Kd.C_below HR0.out HB.out) | refine Kd.C_alloc ?_ _ | refine Kd.C_drewN ?_ _ | refine Kd.C_drew ?_)); (case aB => exact (by repeat (first | (with_reducible first | exact HB.out | apply below_alloc | apply pw_below_drewN | apply below_drew1) | exact HB.out))); (case aF => exact (fun _ _ => trivial)); (case aO => exact (by (with_reducible repeat (first | apply Kd.R_alloc | apply Kd.R_drewN | apply Kd.R_drew)); exact HO103.out)); (case aS => exact (below_size (by repeat (first | (with_reducible first | exact HB.out | apply below_alloc | apply pw_below_drewN | apply below_drew1) | exact HB.out)))); (case aL => have := LMc2.out; omega); intro v105 w5 ho hb hg hat; rw [← Ny104.out] at ho; have n0_ := Aside0.mk (hb); have n1_ := Aside0.mk (ho); clear HB; clear HO103; have HB := n0_; have HO106 := n1_; clear n0_ n1_; clear ho hb hg hat)); go_ret; exact ⟨_, by first | rfl | (simp [errW_none, errW_some] <;> rfl) | (simp [*, errW_none, errW_some] <;> rfl), by (with_reducible repeat (first | apply Kd.R_alloc | apply Kd.R_drewN | apply Kd.R_drew)); exact HO106.out, by repeat (first | (with_reducible first | exact HB.out | apply below_alloc | apply pw_below_drewN | apply below_drew1) | exact HB.out)⟩
 · rw [if_neg c2] at H; exact absurd H (by simp)
end Go.Proofs.Ytkocahlifffgjaa.P
namespace Go.Proofs.Ytkocahlifffgjaa.P
open Go.RowKit Go.Proofs.YtkocahlifffgjaaW.PrintWords
set_option linter.unusedVariables false
set_option linter.unusedSimpArgs false
theorem wsuccL {i n : Nat} (h : i < n) (hn : n ≤ 9223372036854775807) : wrap64 ((i : Int) + 1) = ((i + 1 : Nat) : Int) := by unfold wrap64; omega
theorem putI_split (a b : List Int) (n : Int) (h : ∀ x, x ∈ a → x < n) : putI (a ++ b) n = a ++ putI b n := by
 induction a with
 | nil => rfl
 | cons x a ih =>
  have h1 := h x List.mem_cons_self; show (if x < n then x :: putI (a ++ b) n else _) = _; rw [if_pos h1, ih fun y hy => h y (List.mem_cons_of_mem _ hy)]; rfl
theorem mem_take_rd {l : List Int} {i : Nat} {x : Int} (h : x ∈ l.take i) : ∃ j : Nat, j < i ∧ j < l.length ∧ rd l j = x := by
 obtain ⟨j, hj, rfl⟩ := List.getElem_of_mem h; rw [List.length_take] at hj; refine ⟨j, by omega, by omega, ?_⟩; unfold rd; rw [List.getElem_take, Int.toNat_natCast, List.getD_eq_getElem?_getD, List.getElem?_eq_getElem (by omega)]; rfl
theorem put_loop (l : List Int) (n : Int) (hl : l.length < 17592186044415) (d : Nat) : ∀ (k i : Nat), i ≤ l.length → l.length - i = d → d < k → (∀ j : Nat, j < i → rd l j < n) → spec_l1Put.l0 k l n i = some (putI l n) := by
 have hb : l.length ≤ 9223372036854775807 := by omega
 induction d with
 | zero =>
  intro k i h1 hd hk hp; obtain ⟨k, rfl⟩ : ∃ m, k = m + 1 := ⟨k - 1, by omega⟩
  have hi : i = l.length := by omega
  subst hi; have e : putI l n = l ++ [n] := by
   have := putI_split l [] n (fun x hx => by
    obtain ⟨j, hj1, hj2, rfl⟩ := mem_take_rd (i := l.length) (by rw [List.take_length]; exact hx); exact hp j hj2)
   rw [List.append_nil] at this; exact this
  simp only [spec_l1Put.l0]; rw [if_neg (by omega)]; simp only [Option.bind_some]; rw [if_pos (by omega), if_pos (by omega), Int.toNat_natCast, List.take_length, List.drop_length]; simp only [List.length_nil, List.nil_append, List.length_append, List.length_cons, List.append_nil]; rw [if_pos (by omega), if_pos (by omega), if_pos (by omega), e]
 | succ d ih =>
  intro k i h1 hd hk hp; obtain ⟨k, rfl⟩ : ∃ m, k = m + 1 := ⟨k - 1, by omega⟩
  have hil : i < l.length := by omega
  have ed : l.drop i = rd l i :: l.drop (i + 1) := getD_drop l i 0 hil; have es : putI l n = l.take i ++ putI (l.drop i) n := by
   rw [← putI_split _ _ _ (fun x hx => by
    obtain ⟨j, hj1, hj2, rfl⟩ := mem_take_rd hx; exact hp j hj1), List.take_append_drop]
  simp only [spec_l1Put.l0]; rw [if_pos (by omega), if_pos (by omega)]; by_cases c1 : rd l i < n
  · rw [if_pos c1, wsuccL hil hb]; exact ih k (i + 1) (by omega) (by omega) (by omega) fun j hj => by
     by_cases e : j = i
     · rw [e]; exact c1
     · exact hp j (by omega)
  · rw [if_neg c1]; by_cases c2 : rd l i = n
    · rw [if_pos c2, es, ed]; show some l = some (l.take i ++ (if rd l i < n then _ else if rd l i = n then rd l i :: l.drop (i + 1) else _)); rw [if_neg c1, if_pos c2, ← ed, List.take_append_drop]
    · rw [if_neg c2]; simp only [Option.bind_some]; rw [if_pos (by omega), Int.toNat_natCast]; have h3 : (l.take i).length = i := by rw [List.length_take]; omega
      have h4 : (l.drop i).length = l.length - i := List.length_drop; simp only [List.length_nil, List.nil_append, List.length_append, List.length_cons, h3, h4]; rw [if_pos (by omega), if_pos (by omega), if_pos (by omega), es, ed]; show _ = some (l.take i ++ (if rd l i < n then _ else if rd l i = n then _ else n :: rd l i :: l.drop (i + 1))); rw [if_neg c1, if_neg c2, List.append_assoc]; rfl
theorem put_eq (l : List Int) (n : Int) (hl : l.length < 17592186044415) (k : Nat) (hk : l.length < k) : spec_l1Put.f k l n = some (putI l n) := by
 unfold spec_l1Put.f; exact put_loop l n hl l.length k 0 (by omega) (by omega) hk (fun j hj => by omega)
theorem has_loop (l : List Int) (n : Int) (hb : l.length ≤ 9223372036854775807) (d : Nat) : ∀ (k i : Nat), i ≤ l.length → l.length - i = d → d < k → spec_l1Has.l0 k n l l.length i = some (decide (n ∈ l.drop i)) := by
 induction d with
 | zero =>
  intro k i h1 hd hk; obtain ⟨k, rfl⟩ : ∃ m, k = m + 1 := ⟨k - 1, by omega⟩
  simp only [spec_l1Has.l0]; rw [if_neg (by omega), List.drop_of_length_le (by omega)]; simp
 | succ d ih =>
  intro k i h1 hd hk; obtain ⟨k, rfl⟩ : ∃ m, k = m + 1 := ⟨k - 1, by omega⟩
  have hil : i < l.length := by omega
  have ed : l.drop i = rd l i :: l.drop (i + 1) := getD_drop l i 0 hil; simp only [spec_l1Has.l0]; rw [if_pos (by omega), if_pos (by omega), if_pos (by omega), ed]; by_cases c : rd l i = n
  · rw [if_pos c, decide_eq_true (by rw [c]; exact List.mem_cons_self)]
  · rw [if_neg c, wsuccL hil hb, ih k (i + 1) (by omega) (by omega) (by omega)]; congr 1; rw [Bool.eq_iff_iff, decide_eq_true_eq, decide_eq_true_eq, List.mem_cons]; exact ⟨.inr, fun h => h.elim (fun h => absurd h.symm c) id⟩
theorem has_eq (l : List Int) (n : Int) (hb : l.length ≤ 9223372036854775807) (k : Nat) (hk : l.length < k) : spec_l1Has.f k l n = some (decide (n ∈ l)) := by
 unfold spec_l1Has.f; have := has_loop l n hb l.length k 0 (by omega) (by omega) hk; rw [show ((0 : Nat) : Int) = 0 from rfl, List.drop_zero] at this; exact this
theorem own_eq (l : List Int) (hl : l.length < 17592186044416) : spec_l1Own.f l = some l := by
 unfold spec_l1Own.f; simp only [Option.bind_some, List.length_nil, List.nil_append]; rw [if_pos (by omega)]
theorem compact_up (s : List Int) (hs : s.Pairwise (· ≤ ·)) : ∀ m, m ≤ s.length → UpI (Go.Lib.compactUpTo s.toArray m) ∧ (∀ x, x ∈ Go.Lib.compactUpTo s.toArray m ↔ ∃ j : Nat, j < m ∧ rd s j = x) := by
 have hget : ∀ j, j < s.length → s.toArray[j]! = rd s j := fun j hj => by
  unfold rd; rw [Int.toNat_natCast, List.getD_eq_getElem?_getD, List.getElem?_eq_getElem hj, getElem!_pos s.toArray j (by simpa using hj)]; simp
 have hle : ∀ i j : Nat, i < j → j < s.length → rd s i ≤ rd s j := fun i j hij hj => by
  have := List.pairwise_iff_getElem.1 hs i j (by omega) hj hij; unfold rd; rw [Int.toNat_natCast, Int.toNat_natCast, List.getD_eq_getElem?_getD, List.getD_eq_getElem?_getD, List.getElem?_eq_getElem hj, List.getElem?_eq_getElem (show i < s.length by omega)]; exact this
 intro m
 induction m with
 | zero => intro _; exact ⟨List.Pairwise.nil, fun x => ⟨(fun h => by cases h), (fun ⟨j, hj, _⟩ => by omega)⟩⟩
 | succ m ih =>
  intro hm; obtain ⟨h1, h2⟩ := ih (by omega); rw [Go.Lib.compactUpTo_succ]; cases hk : Go.Lib.keeps s.toArray m with
  | true =>
   rw [if_pos rfl, hget m (by omega)]; have hlt : ∀ x, x ∈ Go.Lib.compactUpTo s.toArray m → x < rd s m := fun x hx => by
    obtain ⟨j, hj, rfl⟩ := (h2 x).1 hx; unfold Go.Lib.keeps at hk; rcases of_decide_eq_true hk with h | h
    · omega
    · rw [hget m (by omega), hget (m - 1) (by omega)] at h; have a1 := hle (m - 1) m (by omega) (by omega); have a2 : rd s j ≤ rd s ((m - 1 : Nat) : Int) := by
       by_cases e : j = m - 1
       · rw [e]; omega
       · exact hle j (m - 1) (by omega) (by omega)
      omega
   refine ⟨List.pairwise_append.2 ⟨h1, List.pairwise_singleton _ _, fun a ha b hb => by rw [List.mem_singleton.1 hb]; exact hlt a ha⟩, fun x => ?_⟩; rw [List.mem_append, h2, List.mem_singleton]; exact ⟨fun h => h.elim (fun ⟨j, hj, e⟩ => ⟨j, by omega, e⟩) (fun e => ⟨m, by omega, e.symm⟩), fun ⟨j, hj, e⟩ => by
    by_cases c : j = m
    · subst c; exact .inr e.symm
    · exact .inl ⟨j, by omega, e⟩⟩
  | false =>
   rw [if_neg (by decide), List.append_nil]; refine ⟨h1, fun x => ?_⟩; rw [h2]; unfold Go.Lib.keeps at hk; have hn := of_decide_eq_false hk; have hm0 : m ≠ 0 := fun e => hn (.inl e)
   have he : s.toArray[m]! = s.toArray[m - 1]! := by
    by_cases c : s.toArray[m]! = s.toArray[m - 1]!
    · exact c
    · exact absurd (.inr c) hn
   rw [hget m (by omega), hget (m - 1) (by omega)] at he; exact ⟨fun ⟨j, hj, e⟩ => ⟨j, by omega, e⟩, fun ⟨j, hj, e⟩ => by
    by_cases c : j = m
    · subst c; exact ⟨j - 1, by omega, by rw [← e, he]⟩
    · exact ⟨j, by omega, e⟩⟩
theorem compact_sort (l : List Int) : Go.Lib.compactUpTo (l.mergeSort fun x y => decide (x ≤ y)).toArray (l.mergeSort fun x y => decide (x ≤ y)).length = sortI l := by
 have hs : (l.mergeSort fun x y => decide (x ≤ y)).Pairwise (· ≤ ·) := by
  have := List.pairwise_mergeSort (le := fun (x y : Int) => decide (x ≤ y)) (fun a b c h1 h2 => by simp at *; omega) (fun a b => by simp; omega) l; exact this.imp fun h => by simpa using h
 obtain ⟨h1, h2⟩ := compact_up _ hs _ (Nat.le_refl _); refine upI_of h1 fun x => (h2 x).trans ?_
 rw [← List.mem_mergeSort (le := fun (x y : Int) => decide (x ≤ y))]; constructor
 · rintro ⟨j, hj, rfl⟩; unfold rd; rw [Int.toNat_natCast, List.getD_eq_getElem?_getD, List.getElem?_eq_getElem hj]; exact List.getElem_mem hj
 · intro h; obtain ⟨j, hj, rfl⟩ := List.getElem_of_mem h; refine ⟨j, hj, ?_⟩; unfold rd; rw [Int.toNat_natCast, List.getD_eq_getElem?_getD, List.getElem?_eq_getElem hj]; rfl
end Go.Proofs.Ytkocahlifffgjaa.P
namespace Go.Proofs.Ytkocahlifffgjaa.P
open Go.RowKit Go.Proofs.YtkocahlifffgjaaW.PrintWords Go.Proofs.YtkocahlifffgjaaW.PrintLast Go.Proofs.YtkocahlifffgjaaW.PrintMore
attribute [local go_sem] max2_int min2_int max_two min_two max_three min_three max_four min_four
set_option linter.unusedVariables false
set_option linter.unusedSimpArgs false
mutual
def spec_l5Null.l0 : Nat → List Int → Bool → Int → Int → List (List Int) → List (List Int) → List Int → List (List Int) → Option (List Int)
 | 0, _, _, _, _, _, _, _, _ => none
 | k + 1, x3, x4, x102000, x102001, x102002, x102003, x102004, x102005 => if x4 = true then (spec_l5Null.l1 k x3 false x102002 (x102002.length : Int) 0 x102000 x102001 x102002 x102003 x102004 x102005) else (some x3)
def spec_l5Null.l1 : Nat → List Int → Bool → List (List Int) → Int → Int → Int → Int → List (List Int) → List (List Int) → List Int → List (List Int) → Option (List Int)
 | 0, _, _, _, _, _, _, _, _, _, _, _ => none
 | k + 1, x3, x4, x14, x15, x16, x102000, x102001, x102002, x102003, x102004, x102005 => if x16 < x15 then (if 0 ≤ x16 then (if x16 < (x14.length : Int) then (if 0 < ((rd_L1 x14 x16).length : Int) then ((spec_l1Has.f k x3 (rd (rd_L1 x14 x16) 0)).bind fun t107 => (if t107 = true then (spec_l5Null.l1 k x3 x4 x14 x15 (wrap64 (x16 + 1)) x102000 x102001 x102002 x102003 x102004 x102005) else (if 1 < ((rd_L1 x14 x16).length : Int) then ((spec_l1Has.f k x3 (rd (rd_L1 x14 x16) 1)).bind fun t109 => (if t109 = true then (if 2 < ((rd_L1 x14 x16).length : Int) then ((spec_l1Has.f k x3 (rd (rd_L1 x14 x16) 2)).bind fun t111 => (if t111 = true then ((spec_l1Put.f k x3 (rd (rd_L1 x14 x16) 0)).bind fun t113 => (spec_l5Null.l1 k t113 true x14 x15 (wrap64 (x16 + 1)) x102000 x102001 x102002 x102003 x102004 x102005)) else (spec_l5Null.l1 k x3 x4 x14 x15 (wrap64 (x16 + 1)) x102000 x102001 x102002 x102003 x102004 x102005))) else (none)) else (spec_l5Null.l1 k x3 x4 x14 x15 (wrap64 (x16 + 1)) x102000 x102001 x102002 x102003 x102004 x102005))) else (none)))) else (none)) else (none)) else (none)) else (spec_l5Null.l2 k x3 x4 x102003 (x102003.length : Int) 0 x102000 x102001 x102002 x102003 x102004 x102005)
def spec_l5Null.l2 : Nat → List Int → Bool → List (List Int) → Int → Int → Int → Int → List (List Int) → List (List Int) → List Int → List (List Int) → Option (List Int)
 | 0, _, _, _, _, _, _, _, _, _, _, _ => none
 | k + 1, x3, x4, x47, x48, x49, x102000, x102001, x102002, x102003, x102004, x102005 => if x49 < x48 then (if 0 ≤ x49 then (if x49 < (x47.length : Int) then (if 0 < ((rd_L1 x47 x49).length : Int) then ((spec_l1Has.f k x3 (rd (rd_L1 x47 x49) 0)).bind fun t118 => (if t118 = true then (spec_l5Null.l2 k x3 x4 x47 x48 (wrap64 (x49 + 1)) x102000 x102001 x102002 x102003 x102004 x102005) else (if 1 < ((rd_L1 x47 x49).length : Int) then ((spec_l1Has.f k x3 (rd (rd_L1 x47 x49) 1)).bind fun t120 => (if t120 = true then ((spec_l1Put.f k x3 (rd (rd_L1 x47 x49) 0)).bind fun t122 => (spec_l5Null.l2 k t122 true x47 x48 (wrap64 (x49 + 1)) x102000 x102001 x102002 x102003 x102004 x102005)) else (spec_l5Null.l2 k x3 x4 x47 x48 (wrap64 (x49 + 1)) x102000 x102001 x102002 x102003 x102004 x102005))) else (none)))) else (none)) else (none)) else (none)) else (spec_l5Null.l0 k x3 x4 x102000 x102001 x102002 x102003 x102004 x102005)
end
def spec_l5Null.f (k : Nat) (a0_0 : Int) (a0_1 : Int) (l0_2 : List (List Int)) (l0_3 : List (List Int)) (l0_4 : List Int) (l0_5 : List (List Int)) : Option (List Int) := (spec_l1Own.f l0_4).bind fun t102 => (spec_l5Null.l0 k t102 true a0_0 a0_1 l0_2 l0_3 l0_4 l0_5)
set_option maxHeartbeats 8000000 in
set_option maxRecDepth 100000 in
theorem spec_l5Null.calls (k : Nat) (a0_0 : Int) (a0_1 : Int) (A0_2 : Option Addr) (c0_2 : Nat) (l0_2 : List (List Int)) (A0_3 : Option Addr) (c0_3 : Nat) (l0_3 : List (List Int)) (A0_4 : Option Addr) (c0_4 : Nat) (l0_4 : List Int) (A0_5 : Option Addr) (c0_5 : Nat) (l0_5 : List (List Int)) (r : List Int) (w : World) (hr0_2 : Kd.C (Kd.slice 3 (Kd.int .i64)) w A0_2 l0_2.length l0_2) (hc0_2 : l0_2.length ≤ c0_2) (hr0_3 : Kd.C (Kd.slice 3 (Kd.int .i64)) w A0_3 l0_3.length l0_3) (hc0_3 : l0_3.length ≤ c0_3) (hr0_4 : Kd.C (Kd.int .i64) w A0_4 l0_4.length l0_4) (hc0_4 : l0_4.length ≤ c0_4) (hr0_5 : Kd.C (Kd.slice 3 (Kd.int .i64)) w A0_5 l0_5.length l0_5) (hc0_5 : l0_5.length ≤ c0_5) (h : spec_l5Null.f k a0_0 a0_1 l0_2 l0_3 l0_4 l0_5 = some r) :
 Calls Try.prog 89 #[.agg #[.int .i64 a0_0, .int .i64 a0_1, .slice A0_2 l0_2.length c0_2, .slice A0_3 l0_3.length c0_3, .slice A0_4 l0_4.length c0_4, .slice A0_5 l0_5.length c0_5]] w fun e w' => ∃ v0_ : Value, e = .returned (v0_) ∧ Kd.R (Kd.int .i64) 3 w' w.heap.size (fun _ => True) v0_ r ∧ Below w.heap.size w w' := by
 have hu29 := Try.underlying29; have HR0_2 := Aside0.mk hr0_2; have HC0_2 := Aside0.mk hc0_2; clear hr0_2 hc0_2; have HR0_3 := Aside0.mk hr0_3; have HC0_3 := Aside0.mk hc0_3; clear hr0_3 hc0_3; have HR0_4 := Aside0.mk hr0_4; have HC0_4 := Aside0.mk hc0_4; clear hr0_4 hc0_4; have HR0_5 := Aside0.mk hr0_5; have HC0_5 := Aside0.mk hc0_5; clear hr0_5 hc0_5; have HB := Aside0.mk (Below.refl w.heap.size w); have H : ((spec_l1Own.f l0_4).bind fun t102 => (spec_l5Null.l0 k t102 true a0_0 a0_1 l0_2 l0_3 l0_4 l0_5)) = some r := h; clear h; replace H := Option.bind_eq_some_iff.mp H; obtain ⟨t102, A20, H⟩ := H; replace H : (spec_l5Null.l0 k t102 true a0_0 a0_1 l0_2 l0_3 l0_4 l0_5) = some r := H; have A2 := Aside0.mk A20; clear A20; have H' := Aside0.mk H; clear H; go_enter Try.func89, Try.ntmps89; go_wp2_with (first | ((with_reducible refine gate_dst (N := 1) rfl ?_); refine box_event ?hg (N := 1) ?hd (cs := #[.int .i64 a0_0, .int .i64 a0_1, .slice A0_2 l0_2.length c0_2, .slice A0_3 l0_3.length c0_3, .slice A0_4 l0_4.length c0_4, .slice A0_5 l0_5.length c0_5]) (t := 29) ?hr ?_; (case hd => rfl); (case hg => rfl); (case hr => first | (go_simp; done) | (go_simp; rfl)); intro gb101 hg w3 hbox hb; have n0_ := Aside0.mk (below_step (by repeat (first | (with_reducible first | exact HB.out | apply below_alloc | apply pw_below_drewN | apply below_drew1) | exact HB.out)) hb); have n1_ := Aside0.mk (hbox); have n2_ := Aside0.mk ((by rw [hg]; exact (below_size (by repeat (first | (with_reducible first | exact HB.out | apply below_alloc | apply pw_below_drewN | apply below_drew1) | exact HB.out))) : w.heap.size ≤ gb101)); have n3_ := Aside0.mk ((by rw [hg]; exact (below_size (by repeat (first | (with_reducible first | exact HB.out | apply below_alloc | apply pw_below_drewN | apply below_drew1) | exact HB.out))) : w.heap.size ≤ gb101)); clear HB; have HB := n0_; have BK101 := n1_; have GW101 := n2_; have GE101 := n3_; clear n0_ n1_ n2_ n3_; clear hb hbox hg; have hcz4_0 : w3.cell? ⟨gb101, 0, none⟩ = some (.int .i64 a0_0) := (blk_cell BK101.out 0).trans rfl; have hcz4_1 : w3.cell? ⟨gb101, 1, none⟩ = some (.int .i64 a0_1) := (blk_cell BK101.out 1).trans rfl; have hcz4_2 : w3.cell? ⟨gb101, 2, none⟩ = some (.slice A0_2 l0_2.length c0_2) := (blk_cell BK101.out 2).trans rfl; have hcz4_3 : w3.cell? ⟨gb101, 3, none⟩ = some (.slice A0_3 l0_3.length c0_3) := (blk_cell BK101.out 3).trans rfl; have hcz4_4 : w3.cell? ⟨gb101, 4, none⟩ = some (.slice A0_4 l0_4.length c0_4) := (blk_cell BK101.out 4).trans rfl; have hcz4_5 : w3.cell? ⟨gb101, 5, none⟩ = some (.slice A0_5 l0_5.length c0_5) := (blk_cell BK101.out 5).trans rfl; have hfz4_0 := blk_frozen BK101.out 0; have hfz4_1 := blk_frozen BK101.out 1; have hfz4_2 := blk_frozen BK101.out 2; have hfz4_3 := blk_frozen BK101.out 3; have hfz4_4 := blk_frozen BK101.out 4; have hfz4_5 := blk_frozen BK101.out 5) | ((with_reducible refine gate_callee (f := 65) rfl ?_); refine goesL_ (some 11) rfl rfl Try.func65 (by kernel_rfl) rfl #[.slice A0_4 l0_4.length c0_4] rfl (by (try simp only [List.map_toArray, List.map_cons, List.map_nil]); first | done | rfl | (simp only [List.length_drop, List.length_take]; rfl)) ?_; (with_reducible refine (spec_l1Own.calls _ _ l0_4 t102 _ ?side1 ?side2 A2.out).mono ?_); (case side1 => repeat (first | exact (Kd.C_below HR0_4.out HB.out) | refine Kd.C_alloc ?_ _ | refine Kd.C_drewN ?_ _ | refine Kd.C_drew ?_)); (case side2 => exact HC0_4.out); rintro e w5 ⟨v103, rfl, ho0, hb⟩; refine ⟨_, rfl, ?_⟩; have n0_ := Aside0.mk (Kd.R_lower ho0 (below_size (by repeat (first | (with_reducible first | exact HB.out | apply below_alloc | apply pw_below_drewN | apply below_drew1 | refine below_set ?_ GE101.out) | exact HB.out)))); have n1_ := Aside0.mk (blk_below (g := gb101) (o := .cells #[.int .i64 a0_0, .int .i64 a0_1, .slice A0_2 l0_2.length c0_2, .slice A0_3 l0_3.length c0_3, .slice A0_4 l0_4.length c0_4, .slice A0_5 l0_5.length c0_5] 29 (0, 0)) (by (with_reducible repeat (first | refine blk_drewN ?_ _ | refine blk_drew ?_ | refine blk_alloc ?_ _)); exact BK101.out) hb); have n2_ := Aside0.mk (below_step (by repeat (first | (with_reducible first | exact HB.out | apply below_alloc | apply pw_below_drewN | apply below_drew1 | refine below_set ?_ GE101.out) | exact HB.out)) hb); clear BK101; clear HB; have HO104 := n0_; have BK101 := n1_; have HB := n2_; clear n0_ n1_ n2_; (try clear hb); (try clear hb2); (try clear hk); (try clear hi); (try clear ho0))); go_loopg [3, 4] k (fun kq v3 v4 w' => ∃ (x3_1 : List Int) (x4_1 : Bool), v4 = .bool x4_1 ∧ Aside0 (spec_l5Null.l0 kq x3_1 x4_1 a0_0 a0_1 l0_2 l0_3 l0_4 l0_5 = some r) ∧ Aside0 (kq ≤ k) ∧ Aside0 (Kd.R (Kd.int .i64) 3 w' w.heap.size (fun _ => True) v3 x3_1) ∧ Aside0 (w'.heap[gb101]? = some (.cells #[.int .i64 a0_0, .int .i64 a0_1, (.slice A0_2 l0_2.length c0_2), (.slice A0_3 l0_3.length c0_3), (.slice A0_4 l0_4.length c0_4), (.slice A0_5 l0_5.length c0_5)] 29 (0, 0))) ∧ Aside0 (Below w.heap.size w w'))
 case atStart => exact ⟨(t102), (true), (by first | rfl | (simp; done) | (simp [*]; done)), H', ⟨Nat.le_refl _⟩, ⟨by (with_reducible repeat (first | apply Kd.R_alloc | apply Kd.R_drewN | apply Kd.R_drew)); exact HO104.out⟩, ⟨by (with_reducible repeat (first | refine blk_drewN ?_ _ | refine blk_drew ?_ | refine blk_alloc ?_ _)); exact BK101.out⟩, ⟨by repeat (first | (with_reducible first | exact HB.out | apply below_alloc | apply pw_below_drewN | apply below_drew1 | refine below_set ?_ GE101.out) | exact HB.out)⟩⟩
 case round =>
  clear H'; (try clear p2); (try clear hcz4_0); (try clear hcz4_1); (try clear hcz4_2); (try clear hcz4_3); (try clear hcz4_4); (try clear hcz4_5); (try clear hfz4_0); (try clear hfz4_1); (try clear hfz4_2); (try clear hfz4_3); (try clear hfz4_4); (try clear hfz4_5); obtain ⟨x3_1, x4_1, rfl, HA, HK1, HO_3, BK101, HB⟩ := hrel; cases gk with
  | zero => exact absurd HA.out (by simp [spec_l5Null.l0])
  | succ k1 =>
   have H := HA.out; clear HA; simp only [spec_l5Null.l0] at H; by_cases c6 : x4_1 = true
   · subst c6; have H1 : (spec_l5Null.l1 k1 x3_1 false l0_2 (l0_2.length : Int) 0 a0_0 a0_1 l0_2 l0_3 l0_4 l0_5) = some r := by rw [if_pos rfl] at H; exact H
     clear H; have H := H1; clear H1; have H' := Aside0.mk H; clear H; have hcz7_0 : wr.cell? ⟨gb101, 0, none⟩ = some (.int .i64 a0_0) := (blk_cell BK101.out 0).trans rfl; have hcz7_1 : wr.cell? ⟨gb101, 1, none⟩ = some (.int .i64 a0_1) := (blk_cell BK101.out 1).trans rfl; have hcz7_2 : wr.cell? ⟨gb101, 2, none⟩ = some (.slice A0_2 l0_2.length c0_2) := (blk_cell BK101.out 2).trans rfl; have hcz7_3 : wr.cell? ⟨gb101, 3, none⟩ = some (.slice A0_3 l0_3.length c0_3) := (blk_cell BK101.out 3).trans rfl; have hcz7_4 : wr.cell? ⟨gb101, 4, none⟩ = some (.slice A0_4 l0_4.length c0_4) := (blk_cell BK101.out 4).trans rfl; have hcz7_5 : wr.cell? ⟨gb101, 5, none⟩ = some (.slice A0_5 l0_5.length c0_5) := (blk_cell BK101.out 5).trans rfl; have hfz7_0 := blk_frozen BK101.out 0; have hfz7_1 := blk_frozen BK101.out 1; have hfz7_2 := blk_frozen BK101.out 2; have hfz7_3 := blk_frozen BK101.out 3; have hfz7_4 := blk_frozen BK101.out 4; have hfz7_5 := blk_frozen BK101.out 5; go_wp2; go_loopg [3, 4, 16] k1 (fun kq v3 v4 v16 w' => ∃ (x3_2 : List Int) (x4_2 : Bool) (x16_2 : Int), v4 = .bool x4_2 ∧ v16 = .int .i64 x16_2 ∧ Aside0 (spec_l5Null.l1 kq x3_2 x4_2 l0_2 (l0_2.length : Int) x16_2 a0_0 a0_1 l0_2 l0_3 l0_4 l0_5 = some r) ∧ Aside0 (kq ≤ k1) ∧ Aside0 (Kd.R (Kd.int .i64) 3 w' w.heap.size (fun _ => True) v3 x3_2) ∧ Aside0 (w'.heap[gb101]? = some (.cells #[.int .i64 a0_0, .int .i64 a0_1, (.slice A0_2 l0_2.length c0_2), (.slice A0_3 l0_3.length c0_3), (.slice A0_4 l0_4.length c0_4), (.slice A0_5 l0_5.length c0_5)] 29 (0, 0))) ∧ Aside0 (Below w.heap.size w w'))
     case atStart => exact ⟨(x3_1), (false), (0), (by first | rfl | (simp; done) | (simp [*]; done)), (by first | rfl | (simp; done) | (simp [*]; done)), H', ⟨Nat.le_refl _⟩, ⟨by (with_reducible repeat (first | apply Kd.R_alloc | apply Kd.R_drewN | apply Kd.R_drew)); exact HO_3.out⟩, ⟨by (with_reducible repeat (first | refine blk_drewN ?_ _ | refine blk_drew ?_ | refine blk_alloc ?_ _)); exact BK101.out⟩, ⟨by repeat (first | (with_reducible first | exact HB.out | apply below_alloc | apply pw_below_drewN | apply below_drew1 | refine below_set ?_ GE101.out) | exact HB.out)⟩⟩
     case round =>
      clear H'; (try clear p2); (try clear c6); (try clear hcz4_0); (try clear hcz4_1); (try clear hcz4_2); (try clear hcz4_3); (try clear hcz4_4); (try clear hcz4_5); (try clear hcz7_0); (try clear hcz7_1); (try clear hcz7_2); (try clear hcz7_3); (try clear hcz7_4); (try clear hcz7_5); (try clear hfz4_0); (try clear hfz4_1); (try clear hfz4_2); (try clear hfz4_3); (try clear hfz4_4); (try clear hfz4_5); (try clear hfz7_0); (try clear hfz7_1); (try clear hfz7_2); (try clear hfz7_3); (try clear hfz7_4); (try clear hfz7_5); (try clear p2); obtain ⟨x3_2, x4_2, x16_2, rfl, rfl, HA, HK2, HO_3, BK101, HB⟩ := hrel; cases gk with
      | zero => exact absurd HA.out (by simp [spec_l5Null.l1])
      | succ k2 =>
       have H := HA.out; clear HA; simp only [spec_l5Null.l1] at H; by_cases c8 : x16_2 < (l0_2.length : Int)
       · rw [if_pos c8] at H; have c8b0 : decide (x16_2 < (l0_2.length : Int)) = true := decide_eq_true c8; clear c8; by_cases c9 : 0 ≤ x16_2
         · rw [if_pos c9] at H; have c9b0 : decide (0 ≤ x16_2) = true := decide_eq_true c9; clear c9; by_cases c10 : x16_2 < (l0_2.length : Int)
           · rw [if_pos c10] at H; have c10b0 : decide (x16_2 < (l0_2.length : Int)) = true := decide_eq_true c10; clear c10; by_cases c11 : 0 < ((rd_L1 l0_2 x16_2).length : Int)
             · rw [if_pos c11] at H; have c11b0 : decide (0 < ((rd_L1 l0_2 x16_2).length : Int)) = true := decide_eq_true c11; have c11b1 : decide (0 < (rd_L1 l0_2 x16_2).length) = true := decide_eq_true (by omega); clear c11; replace H := Option.bind_eq_some_iff.mp H; obtain ⟨t107, A120, H⟩ := H; replace H : (if t107 = true then (spec_l5Null.l1 k2 x3_2 x4_2 l0_2 (l0_2.length : Int) (wrap64 (x16_2 + 1)) a0_0 a0_1 l0_2 l0_3 l0_4 l0_5) else (if 1 < ((rd_L1 l0_2 x16_2).length : Int) then ((spec_l1Has.f k2 x3_2 (rd (rd_L1 l0_2 x16_2) 1)).bind fun t109 => (if t109 = true then (if 2 < ((rd_L1 l0_2 x16_2).length : Int) then ((spec_l1Has.f k2 x3_2 (rd (rd_L1 l0_2 x16_2) 2)).bind fun t111 => (if t111 = true then ((spec_l1Put.f k2 x3_2 (rd (rd_L1 l0_2 x16_2) 0)).bind fun t113 => (spec_l5Null.l1 k2 t113 true l0_2 (l0_2.length : Int) (wrap64 (x16_2 + 1)) a0_0 a0_1 l0_2 l0_3 l0_4 l0_5)) else (spec_l5Null.l1 k2 x3_2 x4_2 l0_2 (l0_2.length : Int) (wrap64 (x16_2 + 1)) a0_0 a0_1 l0_2 l0_3 l0_4 l0_5))) else (none)) else (spec_l5Null.l1 k2 x3_2 x4_2 l0_2 (l0_2.length : Int) (wrap64 (x16_2 + 1)) a0_0 a0_1 l0_2 l0_3 l0_4 l0_5))) else (none))) = some r := H; have A12 := Aside0.mk A120; clear A120; by_cases c13 : t107 = true
               · subst c13; have H1 : (spec_l5Null.l1 k2 x3_2 x4_2 l0_2 (l0_2.length : Int) (wrap64 (x16_2 + 1)) a0_0 a0_1 l0_2 l0_3 l0_4 l0_5) = some r := by rw [if_pos rfl] at H; exact H
                 clear H; have H := H1; clear H1; have H' := Aside0.mk H; clear H; have p105 : 0 ≤ (x16_2 : Int) := of_decide_eq_true (by assumption); have q105 : x16_2 < (l0_2.length : Int) := of_decide_eq_true (by assumption); obtain ⟨ad105, A105_0, c105_0, e105, hx105_0, hl105_0, hi105_0⟩ := at_L1 HR0_2.out x16_2 p105 q105; cases e105; replace hx105_0 := (HB.out.cell (World.block_lt_of_cell? w _ hx105_0)).trans hx105_0; have HR105_0 := Aside0.mk hi105_0; have HC105_0 := Aside0.mk hl105_0; clear hi105_0 hl105_0; replace p105 := eq_true p105; replace q105 := eq_true q105; have p106 : 0 ≤ (0 : Int) := (by omega)
                 have q106 : 0 < ((rd_L1 l0_2 x16_2).length : Int) := of_decide_eq_true (by assumption); obtain ⟨ad106, e106, hx106_0⟩ := Kd.at_int HR105_0.out 0 p106 q106; cases e106; have qi106 : (0 < (rd_L1 l0_2 x16_2).length) = True := eq_true (by omega); (try rw [show ((0 : Int)).toNat = 0 from rfl] at hx106_0); (try rw [Addr.add_zero'] at hx106_0); replace hx106_0 := (HB.out.cell (World.block_lt_of_cell? w _ hx106_0)).trans hx106_0; replace p106 := eq_true p106; replace q106 := eq_true q106; obtain ⟨Ao14, co14, eo14⟩ := Kd.R_slice HO_3.out; subst eo14; go_wp2_with (first | ((with_reducible refine gate_callee (f := 63) rfl ?_); refine goesL_ (some 24) rfl rfl Try.func63 (by kernel_rfl) rfl #[.slice Ao14 x3_2.length co14, .int .i64 (rd (rd_L1 l0_2 x16_2) 0)] rfl (by (try simp only [List.map_toArray, List.map_cons, List.map_nil]); first | done | rfl | (simp only [List.length_drop, List.length_take]; rfl)) ?_; (with_reducible refine (spec_l1Has.calls k2 _ _ x3_2 (rd (rd_L1 l0_2 x16_2) 0) true _ ?side1 ?side2 A12.out).mono ?_); (case side1 => repeat (first | exact (Kd.R_reads' HO_3.out).2.2 | refine Kd.C_alloc ?_ _ | refine Kd.C_drewN ?_ _ | refine Kd.C_drew ?_)); (case side2 => exact (Kd.R_reads' HO_3.out).2.1); rintro e w' ⟨rfl, ⟨nd, rfl⟩⟩; refine ⟨_, rfl, ?_⟩))
                 go_roundg k2
                 case measure => have := HK1.out; have := HK2.out; omega
                 case rel => exact ⟨(x3_2), (x4_2), (wrap64 (x16_2 + 1)), (by first | rfl | (simp; done) | (simp [*]; done)), (by first | rfl | (simp; done) | (simp [*]; done)), H', ⟨by have := HK1.out; have := HK2.out; omega⟩, ⟨by (with_reducible repeat (first | apply Kd.R_alloc | apply Kd.R_drewN | apply Kd.R_drew)); exact HO_3.out⟩, ⟨by (with_reducible repeat (first | refine blk_drewN ?_ _ | refine blk_drew ?_ | refine blk_alloc ?_ _)); exact BK101.out⟩, ⟨by repeat (first | (with_reducible first | exact HB.out | apply below_alloc | apply pw_below_drewN | apply below_drew1 | refine below_set ?_ GE101.out) | exact HB.out)⟩⟩
               · replace c13 := Bool.eq_false_iff.mpr c13; subst c13; have H1 : (if 1 < ((rd_L1 l0_2 x16_2).length : Int) then ((spec_l1Has.f k2 x3_2 (rd (rd_L1 l0_2 x16_2) 1)).bind fun t109 => (if t109 = true then (if 2 < ((rd_L1 l0_2 x16_2).length : Int) then ((spec_l1Has.f k2 x3_2 (rd (rd_L1 l0_2 x16_2) 2)).bind fun t111 => (if t111 = true then ((spec_l1Put.f k2 x3_2 (rd (rd_L1 l0_2 x16_2) 0)).bind fun t113 => (spec_l5Null.l1 k2 t113 true l0_2 (l0_2.length : Int) (wrap64 (x16_2 + 1)) a0_0 a0_1 l0_2 l0_3 l0_4 l0_5)) else (spec_l5Null.l1 k2 x3_2 x4_2 l0_2 (l0_2.length : Int) (wrap64 (x16_2 + 1)) a0_0 a0_1 l0_2 l0_3 l0_4 l0_5))) else (none)) else (spec_l5Null.l1 k2 x3_2 x4_2 l0_2 (l0_2.length : Int) (wrap64 (x16_2 + 1)) a0_0 a0_1 l0_2 l0_3 l0_4 l0_5))) else (none)) = some r := by rw [if_neg (show ¬ (false = true) by decide)] at H; exact H
                 clear H; have H := H1; clear H1; by_cases c15 : 1 < ((rd_L1 l0_2 x16_2).length : Int)
                 · rw [if_pos c15] at H; have c15b0 : decide (1 < ((rd_L1 l0_2 x16_2).length : Int)) = true := decide_eq_true c15; have c15b1 : decide (1 < (rd_L1 l0_2 x16_2).length) = true := decide_eq_true (by omega); clear c15; replace H := Option.bind_eq_some_iff.mp H; obtain ⟨t109, A160, H⟩ := H; replace H : (if t109 = true then (if 2 < ((rd_L1 l0_2 x16_2).length : Int) then ((spec_l1Has.f k2 x3_2 (rd (rd_L1 l0_2 x16_2) 2)).bind fun t111 => (if t111 = true then ((spec_l1Put.f k2 x3_2 (rd (rd_L1 l0_2 x16_2) 0)).bind fun t113 => (spec_l5Null.l1 k2 t113 true l0_2 (l0_2.length : Int) (wrap64 (x16_2 + 1)) a0_0 a0_1 l0_2 l0_3 l0_4 l0_5)) else (spec_l5Null.l1 k2 x3_2 x4_2 l0_2 (l0_2.length : Int) (wrap64 (x16_2 + 1)) a0_0 a0_1 l0_2 l0_3 l0_4 l0_5))) else (none)) else (spec_l5Null.l1 k2 x3_2 x4_2 l0_2 (l0_2.length : Int) (wrap64 (x16_2 + 1)) a0_0 a0_1 l0_2 l0_3 l0_4 l0_5)) = some r := H; have A16 := Aside0.mk A160; clear A160; by_cases c17 : t109 = true
                   · subst c17; have H1 : (if 2 < ((rd_L1 l0_2 x16_2).length : Int) then ((spec_l1Has.f k2 x3_2 (rd (rd_L1 l0_2 x16_2) 2)).bind fun t111 => (if t111 = true then ((spec_l1Put.f k2 x3_2 (rd (rd_L1 l0_2 x16_2) 0)).bind fun t113 => (spec_l5Null.l1 k2 t113 true l0_2 (l0_2.length : Int) (wrap64 (x16_2 + 1)) a0_0 a0_1 l0_2 l0_3 l0_4 l0_5)) else (spec_l5Null.l1 k2 x3_2 x4_2 l0_2 (l0_2.length : Int) (wrap64 (x16_2 + 1)) a0_0 a0_1 l0_2 l0_3 l0_4 l0_5))) else (none)) = some r := by rw [if_pos rfl] at H; exact H
                     clear H; have H := H1; clear H1; by_cases c18 : 2 < ((rd_L1 l0_2 x16_2).length : Int)
                     · rw [if_pos c18] at H; have c18b0 : decide (2 < ((rd_L1 l0_2 x16_2).length : Int)) = true := decide_eq_true c18; have c18b1 : decide (2 < (rd_L1 l0_2 x16_2).length) = true := decide_eq_true (by omega); clear c18; replace H := Option.bind_eq_some_iff.mp H; obtain ⟨t111, A190, H⟩ := H; replace H : (if t111 = true then ((spec_l1Put.f k2 x3_2 (rd (rd_L1 l0_2 x16_2) 0)).bind fun t113 => (spec_l5Null.l1 k2 t113 true l0_2 (l0_2.length : Int) (wrap64 (x16_2 + 1)) a0_0 a0_1 l0_2 l0_3 l0_4 l0_5)) else (spec_l5Null.l1 k2 x3_2 x4_2 l0_2 (l0_2.length : Int) (wrap64 (x16_2 + 1)) a0_0 a0_1 l0_2 l0_3 l0_4 l0_5)) = some r := H; have A19 := Aside0.mk A190; clear A190; by_cases c20 : t111 = true
                       · subst c20; have H1 : ((spec_l1Put.f k2 x3_2 (rd (rd_L1 l0_2 x16_2) 0)).bind fun t113 => (spec_l5Null.l1 k2 t113 true l0_2 (l0_2.length : Int) (wrap64 (x16_2 + 1)) a0_0 a0_1 l0_2 l0_3 l0_4 l0_5)) = some r := by rw [if_pos rfl] at H; exact H
                         clear H; have H := H1; clear H1; replace H := Option.bind_eq_some_iff.mp H; obtain ⟨t113, A210, H⟩ := H; replace H : (spec_l5Null.l1 k2 t113 true l0_2 (l0_2.length : Int) (wrap64 (x16_2 + 1)) a0_0 a0_1 l0_2 l0_3 l0_4 l0_5) = some r := H; have A21 := Aside0.mk A210; clear A210; have H' := Aside0.mk H; clear H; have p105 : 0 ≤ (x16_2 : Int) := of_decide_eq_true (by assumption); have q105 : x16_2 < (l0_2.length : Int) := of_decide_eq_true (by assumption); obtain ⟨ad105, A105_0, c105_0, e105, hx105_0, hl105_0, hi105_0⟩ := at_L1 HR0_2.out x16_2 p105 q105; cases e105; replace hx105_0 := (HB.out.cell (World.block_lt_of_cell? w _ hx105_0)).trans hx105_0; have HR105_0 := Aside0.mk hi105_0; have HC105_0 := Aside0.mk hl105_0; clear hi105_0 hl105_0; replace p105 := eq_true p105; replace q105 := eq_true q105; have p106 : 0 ≤ (0 : Int) := (by omega)
                         have q106 : 0 < ((rd_L1 l0_2 x16_2).length : Int) := of_decide_eq_true (by assumption); obtain ⟨ad106, e106, hx106_0⟩ := Kd.at_int HR105_0.out 0 p106 q106; cases e106; have qi106 : (0 < (rd_L1 l0_2 x16_2).length) = True := eq_true (by omega); (try rw [show ((0 : Int)).toNat = 0 from rfl] at hx106_0); (try rw [Addr.add_zero'] at hx106_0); replace hx106_0 := (HB.out.cell (World.block_lt_of_cell? w _ hx106_0)).trans hx106_0; replace p106 := eq_true p106; replace q106 := eq_true q106; obtain ⟨Ao22, co22, eo22⟩ := Kd.R_slice HO_3.out; subst eo22; go_wp2_with (first | ((with_reducible refine gate_callee (f := 63) rfl ?_); refine goesL_ (some 24) rfl rfl Try.func63 (by kernel_rfl) rfl #[.slice Ao22 x3_2.length co22, .int .i64 (rd (rd_L1 l0_2 x16_2) 0)] rfl (by (try simp only [List.map_toArray, List.map_cons, List.map_nil]); first | done | rfl | (simp only [List.length_drop, List.length_take]; rfl)) ?_; (with_reducible refine (spec_l1Has.calls k2 _ _ x3_2 (rd (rd_L1 l0_2 x16_2) 0) false _ ?side1 ?side2 A12.out).mono ?_); (case side1 => repeat (first | exact (Kd.R_reads' HO_3.out).2.2 | refine Kd.C_alloc ?_ _ | refine Kd.C_drewN ?_ _ | refine Kd.C_drew ?_)); (case side2 => exact (Kd.R_reads' HO_3.out).2.1); rintro e w' ⟨rfl, ⟨nd, rfl⟩⟩; refine ⟨_, rfl, ?_⟩; have p108 : 0 ≤ (1 : Int) := (by omega); have q108 : 1 < ((rd_L1 l0_2 x16_2).length : Int) := of_decide_eq_true (by assumption); obtain ⟨ad108, e108, hx108_0⟩ := Kd.at_int HR105_0.out 1 p108 q108; obtain rfl : ad106 = ad108 := (by injection e108); (try simp only [show (1 : Int).toNat = 1 from rfl, Nat.reduceMul, Nat.reduceEqDiff, Go.Addr.add, ↓reduceIte] at hx108_0); have qi108 : (1 < (rd_L1 l0_2 x16_2).length) = True := eq_true (by omega); (try rw [show ((1 : Int)).toNat = 1 from rfl] at hx108_0); replace hx108_0 := (HB.out.cell (World.block_lt_of_cell? w _ hx108_0)).trans hx108_0; replace p108 := eq_true p108; replace q108 := eq_true q108) | (go_at_call 63; (with_reducible refine (spec_l1Has.calls k2 _ _ x3_2 (rd (rd_L1 l0_2 x16_2) 1) true _ ?side1 ?side2 A16.out).mono ?_); (case side1 => repeat (first | exact (Kd.R_reads' HO_3.out).2.2 | refine Kd.C_alloc ?_ _ | refine Kd.C_drewN ?_ _ | refine Kd.C_drew ?_)); (case side2 => exact (Kd.R_reads' HO_3.out).2.1); rintro e w' ⟨rfl, ⟨nd, rfl⟩⟩; have p110 : 0 ≤ (2 : Int) := (by omega); have q110 : 2 < ((rd_L1 l0_2 x16_2).length : Int) := of_decide_eq_true (by assumption); obtain ⟨ad110, e110, hx110_0⟩ := Kd.at_int HR105_0.out 2 p110 q110; obtain rfl : ad106 = ad110 := (by injection e110); (try simp only [show (2 : Int).toNat = 2 from rfl, Nat.reduceMul, Nat.reduceEqDiff, Go.Addr.add, ↓reduceIte] at hx110_0); have qi110 : (2 < (rd_L1 l0_2 x16_2).length) = True := eq_true (by omega); (try rw [show ((2 : Int)).toNat = 2 from rfl] at hx110_0); replace hx110_0 := (HB.out.cell (World.block_lt_of_cell? w _ hx110_0)).trans hx110_0; replace p110 := eq_true p110; replace q110 := eq_true q110) | (go_at_call 63; (with_reducible refine (spec_l1Has.calls k2 _ _ x3_2 (rd (rd_L1 l0_2 x16_2) 2) true _ ?side1 ?side2 A19.out).mono ?_); (case side1 => repeat (first | exact (Kd.R_reads' HO_3.out).2.2 | refine Kd.C_alloc ?_ _ | refine Kd.C_drewN ?_ _ | refine Kd.C_drew ?_)); (case side2 => exact (Kd.R_reads' HO_3.out).2.1); rintro e w' ⟨rfl, ⟨nd, rfl⟩⟩; have p112 : 0 ≤ (0 : Int) := (by omega); have q112 : 0 < ((rd_L1 l0_2 x16_2).length : Int) := of_decide_eq_true (by assumption); obtain ⟨ad112, e112, hx112_0⟩ := Kd.at_int HR105_0.out 0 p112 q112; obtain rfl : ad106 = ad112 := (by injection e112); have qi112 : (0 < (rd_L1 l0_2 x16_2).length) = True := eq_true (by omega); (try rw [show ((0 : Int)).toNat = 0 from rfl] at hx112_0); (try rw [Addr.add_zero'] at hx112_0); replace hx112_0 := (HB.out.cell (World.block_lt_of_cell? w _ hx112_0)).trans hx112_0; replace p112 := eq_true p112; replace q112 := eq_true q112) | ((with_reducible refine gate_callee (f := 66) rfl ?_); refine goesL_ (some 44) rfl rfl Try.func66 (by kernel_rfl) rfl #[.slice Ao22 x3_2.length co22, .int .i64 (rd (rd_L1 l0_2 x16_2) 0)] rfl (by (try simp only [List.map_toArray, List.map_cons, List.map_nil]); first | done | rfl | (simp only [List.length_drop, List.length_take]; rfl)) ?_; (with_reducible refine (spec_l1Put.calls k2 (fun k_ => some k_ = (.slice Ao22 x3_2.length co22 : Value).ownBlock) (.slice Ao22 x3_2.length co22) x3_2 (rd (rd_L1 l0_2 x16_2) 0) t113 w _ ?side1 ?side2 A21.out).mono ?_); (case side1 => repeat (first | (with_reducible first | exact HB.out | apply below_alloc | apply pw_below_drewN | apply below_drew1 | refine below_set ?_ GE101.out) | exact HB.out)); (case side2 => exact Kd.R_tight rfl HO_3.out); rintro e w23 ⟨v114, rfl, ho0, hb, hkp⟩; refine ⟨_, rfl, ?_⟩; have n0_ := Aside0.mk (blk_kept (by (with_reducible repeat (first | refine blk_drewN ?_ _ | refine blk_drew ?_ | refine blk_alloc ?_ _)); exact BK101.out) hkp (fun hs_ => (fun e_ => (Kd.R_ne HO_3.out BK101.out (by decide)) e_) hs_)); have n1_ := Aside0.mk (Kd.R_mono (ok' := fun k_ => True) ho0 (fun k_ hk_ => trivial)); have n2_ := Aside0.mk (hb); clear BK101; clear HB; clear HO_3; have BK101 := n0_; have HO115 := n1_; have HB := n2_; clear n0_ n1_ n2_; (try clear hb); (try clear hkp); (try clear ho0)))
                         go_roundg k2
                         case measure => have := HK1.out; have := HK2.out; omega
                         case rel => exact ⟨(t113), (true), (wrap64 (x16_2 + 1)), (by first | rfl | (simp; done) | (simp [*]; done)), (by first | rfl | (simp; done) | (simp [*]; done)), H', ⟨by have := HK1.out; have := HK2.out; omega⟩, ⟨by (with_reducible repeat (first | apply Kd.R_alloc | apply Kd.R_drewN | apply Kd.R_drew)); exact HO115.out⟩, ⟨by (with_reducible repeat (first | refine blk_drewN ?_ _ | refine blk_drew ?_ | refine blk_alloc ?_ _)); exact BK101.out⟩, ⟨by repeat (first | (with_reducible first | exact HB.out | apply below_alloc | apply pw_below_drewN | apply below_drew1 | refine below_set ?_ GE101.out) | exact HB.out)⟩⟩
                       · replace c20 := Bool.eq_false_iff.mpr c20; subst c20; have H1 : (spec_l5Null.l1 k2 x3_2 x4_2 l0_2 (l0_2.length : Int) (wrap64 (x16_2 + 1)) a0_0 a0_1 l0_2 l0_3 l0_4 l0_5) = some r := by rw [if_neg (show ¬ (false = true) by decide)] at H; exact H
                         clear H; have H := H1; clear H1; have H' := Aside0.mk H; clear H; have p105 : 0 ≤ (x16_2 : Int) := of_decide_eq_true (by assumption); have q105 : x16_2 < (l0_2.length : Int) := of_decide_eq_true (by assumption); obtain ⟨ad105, A105_0, c105_0, e105, hx105_0, hl105_0, hi105_0⟩ := at_L1 HR0_2.out x16_2 p105 q105; cases e105; replace hx105_0 := (HB.out.cell (World.block_lt_of_cell? w _ hx105_0)).trans hx105_0; have HR105_0 := Aside0.mk hi105_0; have HC105_0 := Aside0.mk hl105_0; clear hi105_0 hl105_0; replace p105 := eq_true p105; replace q105 := eq_true q105; have p106 : 0 ≤ (0 : Int) := (by omega)
                         have q106 : 0 < ((rd_L1 l0_2 x16_2).length : Int) := of_decide_eq_true (by assumption); obtain ⟨ad106, e106, hx106_0⟩ := Kd.at_int HR105_0.out 0 p106 q106; cases e106; have qi106 : (0 < (rd_L1 l0_2 x16_2).length) = True := eq_true (by omega); (try rw [show ((0 : Int)).toNat = 0 from rfl] at hx106_0); (try rw [Addr.add_zero'] at hx106_0); replace hx106_0 := (HB.out.cell (World.block_lt_of_cell? w _ hx106_0)).trans hx106_0; replace p106 := eq_true p106; replace q106 := eq_true q106; obtain ⟨Ao24, co24, eo24⟩ := Kd.R_slice HO_3.out; subst eo24; go_wp2_with (first | ((with_reducible refine gate_callee (f := 63) rfl ?_); refine goesL_ (some 24) rfl rfl Try.func63 (by kernel_rfl) rfl #[.slice Ao24 x3_2.length co24, .int .i64 (rd (rd_L1 l0_2 x16_2) 0)] rfl (by (try simp only [List.map_toArray, List.map_cons, List.map_nil]); first | done | rfl | (simp only [List.length_drop, List.length_take]; rfl)) ?_; (with_reducible refine (spec_l1Has.calls k2 _ _ x3_2 (rd (rd_L1 l0_2 x16_2) 0) false _ ?side1 ?side2 A12.out).mono ?_); (case side1 => repeat (first | exact (Kd.R_reads' HO_3.out).2.2 | refine Kd.C_alloc ?_ _ | refine Kd.C_drewN ?_ _ | refine Kd.C_drew ?_)); (case side2 => exact (Kd.R_reads' HO_3.out).2.1); rintro e w' ⟨rfl, ⟨nd, rfl⟩⟩; refine ⟨_, rfl, ?_⟩; have p108 : 0 ≤ (1 : Int) := (by omega); have q108 : 1 < ((rd_L1 l0_2 x16_2).length : Int) := of_decide_eq_true (by assumption); obtain ⟨ad108, e108, hx108_0⟩ := Kd.at_int HR105_0.out 1 p108 q108; obtain rfl : ad106 = ad108 := (by injection e108); (try simp only [show (1 : Int).toNat = 1 from rfl, Nat.reduceMul, Nat.reduceEqDiff, Go.Addr.add, ↓reduceIte] at hx108_0); have qi108 : (1 < (rd_L1 l0_2 x16_2).length) = True := eq_true (by omega); (try rw [show ((1 : Int)).toNat = 1 from rfl] at hx108_0); replace hx108_0 := (HB.out.cell (World.block_lt_of_cell? w _ hx108_0)).trans hx108_0; replace p108 := eq_true p108; replace q108 := eq_true q108) | (go_at_call 63; (with_reducible refine (spec_l1Has.calls k2 _ _ x3_2 (rd (rd_L1 l0_2 x16_2) 1) true _ ?side1 ?side2 A16.out).mono ?_); (case side1 => repeat (first | exact (Kd.R_reads' HO_3.out).2.2 | refine Kd.C_alloc ?_ _ | refine Kd.C_drewN ?_ _ | refine Kd.C_drew ?_)); (case side2 => exact (Kd.R_reads' HO_3.out).2.1); rintro e w' ⟨rfl, ⟨nd, rfl⟩⟩; have p110 : 0 ≤ (2 : Int) := (by omega); have q110 : 2 < ((rd_L1 l0_2 x16_2).length : Int) := of_decide_eq_true (by assumption); obtain ⟨ad110, e110, hx110_0⟩ := Kd.at_int HR105_0.out 2 p110 q110; obtain rfl : ad106 = ad110 := (by injection e110); (try simp only [show (2 : Int).toNat = 2 from rfl, Nat.reduceMul, Nat.reduceEqDiff, Go.Addr.add, ↓reduceIte] at hx110_0); have qi110 : (2 < (rd_L1 l0_2 x16_2).length) = True := eq_true (by omega); (try rw [show ((2 : Int)).toNat = 2 from rfl] at hx110_0); replace hx110_0 := (HB.out.cell (World.block_lt_of_cell? w _ hx110_0)).trans hx110_0; replace p110 := eq_true p110; replace q110 := eq_true q110) | (go_at_call 63; (with_reducible refine (spec_l1Has.calls k2 _ _ x3_2 (rd (rd_L1 l0_2 x16_2) 2) false _ ?side1 ?side2 A19.out).mono ?_); (case side1 => repeat (first | exact (Kd.R_reads' HO_3.out).2.2 | refine Kd.C_alloc ?_ _ | refine Kd.C_drewN ?_ _ | refine Kd.C_drew ?_)); (case side2 => exact (Kd.R_reads' HO_3.out).2.1); rintro e w' ⟨rfl, ⟨nd, rfl⟩⟩))
                         go_roundg k2
                         case measure => have := HK1.out; have := HK2.out; omega
                         case rel => exact ⟨(x3_2), (x4_2), (wrap64 (x16_2 + 1)), (by first | rfl | (simp; done) | (simp [*]; done)), (by first | rfl | (simp; done) | (simp [*]; done)), H', ⟨by have := HK1.out; have := HK2.out; omega⟩, ⟨by (with_reducible repeat (first | apply Kd.R_alloc | apply Kd.R_drewN | apply Kd.R_drew)); exact HO_3.out⟩, ⟨by (with_reducible repeat (first | refine blk_drewN ?_ _ | refine blk_drew ?_ | refine blk_alloc ?_ _)); exact BK101.out⟩, ⟨by repeat (first | (with_reducible first | exact HB.out | apply below_alloc | apply pw_below_drewN | apply below_drew1 | refine below_set ?_ GE101.out) | exact HB.out)⟩⟩
                     · rw [if_neg c18] at H; exact absurd H (by simp)
                   · replace c17 := Bool.eq_false_iff.mpr c17; subst c17; have H1 : (spec_l5Null.l1 k2 x3_2 x4_2 l0_2 (l0_2.length : Int) (wrap64 (x16_2 + 1)) a0_0 a0_1 l0_2 l0_3 l0_4 l0_5) = some r := by rw [if_neg (show ¬ (false = true) by decide)] at H; exact H
                     clear H; have H := H1; clear H1; have H' := Aside0.mk H; clear H; have p105 : 0 ≤ (x16_2 : Int) := of_decide_eq_true (by assumption); have q105 : x16_2 < (l0_2.length : Int) := of_decide_eq_true (by assumption); obtain ⟨ad105, A105_0, c105_0, e105, hx105_0, hl105_0, hi105_0⟩ := at_L1 HR0_2.out x16_2 p105 q105; cases e105; replace hx105_0 := (HB.out.cell (World.block_lt_of_cell? w _ hx105_0)).trans hx105_0; have HR105_0 := Aside0.mk hi105_0; have HC105_0 := Aside0.mk hl105_0; clear hi105_0 hl105_0; replace p105 := eq_true p105; replace q105 := eq_true q105; have p106 : 0 ≤ (0 : Int) := (by omega)
                     have q106 : 0 < ((rd_L1 l0_2 x16_2).length : Int) := of_decide_eq_true (by assumption); obtain ⟨ad106, e106, hx106_0⟩ := Kd.at_int HR105_0.out 0 p106 q106; cases e106; have qi106 : (0 < (rd_L1 l0_2 x16_2).length) = True := eq_true (by omega); (try rw [show ((0 : Int)).toNat = 0 from rfl] at hx106_0); (try rw [Addr.add_zero'] at hx106_0); replace hx106_0 := (HB.out.cell (World.block_lt_of_cell? w _ hx106_0)).trans hx106_0; replace p106 := eq_true p106; replace q106 := eq_true q106; obtain ⟨Ao25, co25, eo25⟩ := Kd.R_slice HO_3.out; subst eo25; go_wp2_with (first | ((with_reducible refine gate_callee (f := 63) rfl ?_); refine goesL_ (some 24) rfl rfl Try.func63 (by kernel_rfl) rfl #[.slice Ao25 x3_2.length co25, .int .i64 (rd (rd_L1 l0_2 x16_2) 0)] rfl (by (try simp only [List.map_toArray, List.map_cons, List.map_nil]); first | done | rfl | (simp only [List.length_drop, List.length_take]; rfl)) ?_; (with_reducible refine (spec_l1Has.calls k2 _ _ x3_2 (rd (rd_L1 l0_2 x16_2) 0) false _ ?side1 ?side2 A12.out).mono ?_); (case side1 => repeat (first | exact (Kd.R_reads' HO_3.out).2.2 | refine Kd.C_alloc ?_ _ | refine Kd.C_drewN ?_ _ | refine Kd.C_drew ?_)); (case side2 => exact (Kd.R_reads' HO_3.out).2.1); rintro e w' ⟨rfl, ⟨nd, rfl⟩⟩; refine ⟨_, rfl, ?_⟩; have p108 : 0 ≤ (1 : Int) := (by omega); have q108 : 1 < ((rd_L1 l0_2 x16_2).length : Int) := of_decide_eq_true (by assumption); obtain ⟨ad108, e108, hx108_0⟩ := Kd.at_int HR105_0.out 1 p108 q108; obtain rfl : ad106 = ad108 := (by injection e108); (try simp only [show (1 : Int).toNat = 1 from rfl, Nat.reduceMul, Nat.reduceEqDiff, Go.Addr.add, ↓reduceIte] at hx108_0); have qi108 : (1 < (rd_L1 l0_2 x16_2).length) = True := eq_true (by omega); (try rw [show ((1 : Int)).toNat = 1 from rfl] at hx108_0); replace hx108_0 := (HB.out.cell (World.block_lt_of_cell? w _ hx108_0)).trans hx108_0; replace p108 := eq_true p108; replace q108 := eq_true q108) | (go_at_call 63; (with_reducible refine (spec_l1Has.calls k2 _ _ x3_2 (rd (rd_L1 l0_2 x16_2) 1) false _ ?side1 ?side2 A16.out).mono ?_); (case side1 => repeat (first | exact (Kd.R_reads' HO_3.out).2.2 | refine Kd.C_alloc ?_ _ | refine Kd.C_drewN ?_ _ | refine Kd.C_drew ?_)); (case side2 => exact (Kd.R_reads' HO_3.out).2.1); rintro e w' ⟨rfl, ⟨nd, rfl⟩⟩))
                     go_roundg k2
                     case measure => have := HK1.out; have := HK2.out; omega
                     case rel => exact ⟨(x3_2), (x4_2), (wrap64 (x16_2 + 1)), (by first | rfl | (simp; done) | (simp [*]; done)), (by first | rfl | (simp; done) | (simp [*]; done)), H', ⟨by have := HK1.out; have := HK2.out; omega⟩, ⟨by (with_reducible repeat (first | apply Kd.R_alloc | apply Kd.R_drewN | apply Kd.R_drew)); exact HO_3.out⟩, ⟨by (with_reducible repeat (first | refine blk_drewN ?_ _ | refine blk_drew ?_ | refine blk_alloc ?_ _)); exact BK101.out⟩, ⟨by repeat (first | (with_reducible first | exact HB.out | apply below_alloc | apply pw_below_drewN | apply below_drew1 | refine below_set ?_ GE101.out) | exact HB.out)⟩⟩
                 · rw [if_neg c15] at H; exact absurd H (by simp)
             · rw [if_neg c11] at H; exact absurd H (by simp)
           · rw [if_neg c10] at H; exact absurd H (by simp)
         · rw [if_neg c9] at H; exact absurd H (by simp)
       · rw [if_neg c8] at H; have c8b0 : decide (x16_2 < (l0_2.length : Int)) = false := decide_eq_false c8; clear c8; have H' := Aside0.mk H; clear H; have hcz26_0 : wr.cell? ⟨gb101, 0, none⟩ = some (.int .i64 a0_0) := (blk_cell BK101.out 0).trans rfl; have hcz26_1 : wr.cell? ⟨gb101, 1, none⟩ = some (.int .i64 a0_1) := (blk_cell BK101.out 1).trans rfl; have hcz26_2 : wr.cell? ⟨gb101, 2, none⟩ = some (.slice A0_2 l0_2.length c0_2) := (blk_cell BK101.out 2).trans rfl; have hcz26_3 : wr.cell? ⟨gb101, 3, none⟩ = some (.slice A0_3 l0_3.length c0_3) := (blk_cell BK101.out 3).trans rfl; have hcz26_4 : wr.cell? ⟨gb101, 4, none⟩ = some (.slice A0_4 l0_4.length c0_4) := (blk_cell BK101.out 4).trans rfl; have hcz26_5 : wr.cell? ⟨gb101, 5, none⟩ = some (.slice A0_5 l0_5.length c0_5) := (blk_cell BK101.out 5).trans rfl; have hfz26_0 := blk_frozen BK101.out 0; have hfz26_1 := blk_frozen BK101.out 1; have hfz26_2 := blk_frozen BK101.out 2; have hfz26_3 := blk_frozen BK101.out 3; have hfz26_4 := blk_frozen BK101.out 4; have hfz26_5 := blk_frozen BK101.out 5; go_wp2; go_loopg [3, 4, 49] k2 (fun kq v3 v4 v49 w' => ∃ (x3_3 : List Int) (x4_3 : Bool) (x49_3 : Int), v4 = .bool x4_3 ∧ v49 = .int .i64 x49_3 ∧ Aside0 (spec_l5Null.l2 kq x3_3 x4_3 l0_3 (l0_3.length : Int) x49_3 a0_0 a0_1 l0_2 l0_3 l0_4 l0_5 = some r) ∧ Aside0 (kq ≤ k2) ∧ Aside0 (Kd.R (Kd.int .i64) 3 w' w.heap.size (fun _ => True) v3 x3_3) ∧ Aside0 (w'.heap[gb101]? = some (.cells #[.int .i64 a0_0, .int .i64 a0_1, (.slice A0_2 l0_2.length c0_2), (.slice A0_3 l0_3.length c0_3), (.slice A0_4 l0_4.length c0_4), (.slice A0_5 l0_5.length c0_5)] 29 (0, 0))) ∧ Aside0 (Below w.heap.size w w'))
         case atStart => exact ⟨(x3_2), (x4_2), (0), (by first | rfl | (simp; done) | (simp [*]; done)), (by first | rfl | (simp; done) | (simp [*]; done)), H', ⟨Nat.le_refl _⟩, ⟨by (with_reducible repeat (first | apply Kd.R_alloc | apply Kd.R_drewN | apply Kd.R_drew)); exact HO_3.out⟩, ⟨by (with_reducible repeat (first | refine blk_drewN ?_ _ | refine blk_drew ?_ | refine blk_alloc ?_ _)); exact BK101.out⟩, ⟨by repeat (first | (with_reducible first | exact HB.out | apply below_alloc | apply pw_below_drewN | apply below_drew1 | refine below_set ?_ GE101.out) | exact HB.out)⟩⟩
         case round =>
          clear H'; (try clear c1); (try clear p1); (try clear q1); (try clear hx1); (try clear qi1); (try clear c2); (try clear p2); (try clear c6); (try clear p6); (try clear c8); (try clear c8b0); (try clear c9); (try clear c9b0); (try clear c10); (try clear c10b0); (try clear p10); (try clear q10); (try clear hx10); (try clear qi10); (try clear c11); (try clear c11b0); (try clear c11b1); (try clear p11); (try clear q11); (try clear hx11); (try clear qi11); (try clear c13); (try clear c15); (try clear c15b0); (try clear c15b1); (try clear c17); (try clear c18); (try clear c18b0); (try clear c18b1); (try clear c20); (try clear hcz26_0); (try clear hcz26_1); (try clear hcz26_2); (try clear hcz26_3); (try clear hcz26_4); (try clear hcz26_5); (try clear hcz4_0); (try clear hcz4_1); (try clear hcz4_2); (try clear hcz4_3); (try clear hcz4_4); (try clear hcz4_5); (try clear hcz7_0); (try clear hcz7_1); (try clear hcz7_2); (try clear hcz7_3); (try clear hcz7_4); (try clear hcz7_5); (try clear hfz26_0); (try clear hfz26_1); (try clear hfz26_2); (try clear hfz26_3); (try clear hfz26_4); (try clear hfz26_5); (try clear hfz4_0); (try clear hfz4_1); (try clear hfz4_2); (try clear hfz4_3); (try clear hfz4_4); (try clear hfz4_5); (try clear hfz7_0); (try clear hfz7_1); (try clear hfz7_2); (try clear hfz7_3); (try clear hfz7_4); (try clear hfz7_5); (try clear hx105_0); (try clear hx106_0); (try clear hx108_0); (try clear hx110_0); (try clear hx112_0); (try clear p105); (try clear p106); (try clear p108); (try clear p110); (try clear p112); (try clear p2); (try clear q105); (try clear q106); (try clear q108); (try clear q110); (try clear q112); obtain ⟨x3_3, x4_3, x49_3, rfl, rfl, HA, HK3, HO_3, BK101, HB⟩ := hrel; cases gk with
          | zero => exact absurd HA.out (by simp [spec_l5Null.l2])
          | succ k3 =>
           have H := HA.out; clear HA; simp only [spec_l5Null.l2] at H; by_cases c27 : x49_3 < (l0_3.length : Int)
           · rw [if_pos c27] at H; have c27b0 : decide (x49_3 < (l0_3.length : Int)) = true := decide_eq_true c27; clear c27; by_cases c28 : 0 ≤ x49_3
             · rw [if_pos c28] at H; have c28b0 : decide (0 ≤ x49_3) = true := decide_eq_true c28; clear c28; by_cases c29 : x49_3 < (l0_3.length : Int)
               · rw [if_pos c29] at H; have c29b0 : decide (x49_3 < (l0_3.length : Int)) = true := decide_eq_true c29; clear c29; by_cases c30 : 0 < ((rd_L1 l0_3 x49_3).length : Int)
                 · rw [if_pos c30] at H; have c30b0 : decide (0 < ((rd_L1 l0_3 x49_3).length : Int)) = true := decide_eq_true c30; have c30b1 : decide (0 < (rd_L1 l0_3 x49_3).length) = true := decide_eq_true (by omega); clear c30; replace H := Option.bind_eq_some_iff.mp H; obtain ⟨t118, A310, H⟩ := H; replace H : (if t118 = true then (spec_l5Null.l2 k3 x3_3 x4_3 l0_3 (l0_3.length : Int) (wrap64 (x49_3 + 1)) a0_0 a0_1 l0_2 l0_3 l0_4 l0_5) else (if 1 < ((rd_L1 l0_3 x49_3).length : Int) then ((spec_l1Has.f k3 x3_3 (rd (rd_L1 l0_3 x49_3) 1)).bind fun t120 => (if t120 = true then ((spec_l1Put.f k3 x3_3 (rd (rd_L1 l0_3 x49_3) 0)).bind fun t122 => (spec_l5Null.l2 k3 t122 true l0_3 (l0_3.length : Int) (wrap64 (x49_3 + 1)) a0_0 a0_1 l0_2 l0_3 l0_4 l0_5)) else (spec_l5Null.l2 k3 x3_3 x4_3 l0_3 (l0_3.length : Int) (wrap64 (x49_3 + 1)) a0_0 a0_1 l0_2 l0_3 l0_4 l0_5))) else (none))) = some r := H; have A31 := Aside0.mk A310; clear A310; by_cases c32 : t118 = true
                   · subst c32; have H1 : (spec_l5Null.l2 k3 x3_3 x4_3 l0_3 (l0_3.length : Int) (wrap64 (x49_3 + 1)) a0_0 a0_1 l0_2 l0_3 l0_4 l0_5) = some r := by rw [if_pos rfl] at H; exact H
                     clear H; have H := H1; clear H1; have H' := Aside0.mk H; clear H; have p116 : 0 ≤ (x49_3 : Int) := of_decide_eq_true (by assumption); have q116 : x49_3 < (l0_3.length : Int) := of_decide_eq_true (by assumption); obtain ⟨ad116, A116_0, c116_0, e116, hx116_0, hl116_0, hi116_0⟩ := at_L1 HR0_3.out x49_3 p116 q116; cases e116; replace hx116_0 := (HB.out.cell (World.block_lt_of_cell? w _ hx116_0)).trans hx116_0; have HR116_0 := Aside0.mk hi116_0; have HC116_0 := Aside0.mk hl116_0; clear hi116_0 hl116_0; replace p116 := eq_true p116; replace q116 := eq_true q116; have p117 : 0 ≤ (0 : Int) := (by omega)
                     have q117 : 0 < ((rd_L1 l0_3 x49_3).length : Int) := of_decide_eq_true (by assumption); obtain ⟨ad117, e117, hx117_0⟩ := Kd.at_int HR116_0.out 0 p117 q117; cases e117; have qi117 : (0 < (rd_L1 l0_3 x49_3).length) = True := eq_true (by omega); (try rw [show ((0 : Int)).toNat = 0 from rfl] at hx117_0); (try rw [Addr.add_zero'] at hx117_0); replace hx117_0 := (HB.out.cell (World.block_lt_of_cell? w _ hx117_0)).trans hx117_0; replace p117 := eq_true p117; replace q117 := eq_true q117; obtain ⟨Ao33, co33, eo33⟩ := Kd.R_slice HO_3.out; subst eo33; go_wp2_with (first | ((with_reducible refine gate_callee (f := 63) rfl ?_); refine goesL_ (some 57) rfl rfl Try.func63 (by kernel_rfl) rfl #[.slice Ao33 x3_3.length co33, .int .i64 (rd (rd_L1 l0_3 x49_3) 0)] rfl (by (try simp only [List.map_toArray, List.map_cons, List.map_nil]); first | done | rfl | (simp only [List.length_drop, List.length_take]; rfl)) ?_; (with_reducible refine (spec_l1Has.calls k3 _ _ x3_3 (rd (rd_L1 l0_3 x49_3) 0) true _ ?side1 ?side2 A31.out).mono ?_); (case side1 => repeat (first | exact (Kd.R_reads' HO_3.out).2.2 | refine Kd.C_alloc ?_ _ | refine Kd.C_drewN ?_ _ | refine Kd.C_drew ?_)); (case side2 => exact (Kd.R_reads' HO_3.out).2.1); rintro e w' ⟨rfl, ⟨nd, rfl⟩⟩; refine ⟨_, rfl, ?_⟩))
                     go_roundg k3
                     case measure => have := HK1.out; have := HK2.out; have := HK3.out; omega
                     case rel => exact ⟨(x3_3), (x4_3), (wrap64 (x49_3 + 1)), (by first | rfl | (simp; done) | (simp [*]; done)), (by first | rfl | (simp; done) | (simp [*]; done)), H', ⟨by have := HK1.out; have := HK2.out; have := HK3.out; omega⟩, ⟨by (with_reducible repeat (first | apply Kd.R_alloc | apply Kd.R_drewN | apply Kd.R_drew)); exact HO_3.out⟩, ⟨by (with_reducible repeat (first | refine blk_drewN ?_ _ | refine blk_drew ?_ | refine blk_alloc ?_ _)); exact BK101.out⟩, ⟨by repeat (first | (with_reducible first | exact HB.out | apply below_alloc | apply pw_below_drewN | apply below_drew1 | refine below_set ?_ GE101.out) | exact HB.out)⟩⟩
                   · replace c32 := Bool.eq_false_iff.mpr c32; subst c32; have H1 : (if 1 < ((rd_L1 l0_3 x49_3).length : Int) then ((spec_l1Has.f k3 x3_3 (rd (rd_L1 l0_3 x49_3) 1)).bind fun t120 => (if t120 = true then ((spec_l1Put.f k3 x3_3 (rd (rd_L1 l0_3 x49_3) 0)).bind fun t122 => (spec_l5Null.l2 k3 t122 true l0_3 (l0_3.length : Int) (wrap64 (x49_3 + 1)) a0_0 a0_1 l0_2 l0_3 l0_4 l0_5)) else (spec_l5Null.l2 k3 x3_3 x4_3 l0_3 (l0_3.length : Int) (wrap64 (x49_3 + 1)) a0_0 a0_1 l0_2 l0_3 l0_4 l0_5))) else (none)) = some r := by rw [if_neg (show ¬ (false = true) by decide)] at H; exact H
                     clear H; have H := H1; clear H1; by_cases c34 : 1 < ((rd_L1 l0_3 x49_3).length : Int)
                     · rw [if_pos c34] at H; have c34b0 : decide (1 < ((rd_L1 l0_3 x49_3).length : Int)) = true := decide_eq_true c34; have c34b1 : decide (1 < (rd_L1 l0_3 x49_3).length) = true := decide_eq_true (by omega); clear c34; replace H := Option.bind_eq_some_iff.mp H; obtain ⟨t120, A350, H⟩ := H; replace H : (if t120 = true then ((spec_l1Put.f k3 x3_3 (rd (rd_L1 l0_3 x49_3) 0)).bind fun t122 => (spec_l5Null.l2 k3 t122 true l0_3 (l0_3.length : Int) (wrap64 (x49_3 + 1)) a0_0 a0_1 l0_2 l0_3 l0_4 l0_5)) else (spec_l5Null.l2 k3 x3_3 x4_3 l0_3 (l0_3.length : Int) (wrap64 (x49_3 + 1)) a0_0 a0_1 l0_2 l0_3 l0_4 l0_5)) = some r := H; have A35 := Aside0.mk A350; clear A350; by_cases c36 : t120 = true
                       · subst c36; have H1 : ((spec_l1Put.f k3 x3_3 (rd (rd_L1 l0_3 x49_3) 0)).bind fun t122 => (spec_l5Null.l2 k3 t122 true l0_3 (l0_3.length : Int) (wrap64 (x49_3 + 1)) a0_0 a0_1 l0_2 l0_3 l0_4 l0_5)) = some r := by rw [if_pos rfl] at H; exact H
                         clear H; have H := H1; clear H1; replace H := Option.bind_eq_some_iff.mp H; obtain ⟨t122, A370, H⟩ := H; replace H : (spec_l5Null.l2 k3 t122 true l0_3 (l0_3.length : Int) (wrap64 (x49_3 + 1)) a0_0 a0_1 l0_2 l0_3 l0_4 l0_5) = some r := H; have A37 := Aside0.mk A370; clear A370; have H' := Aside0.mk H; clear H; have p116 : 0 ≤ (x49_3 : Int) := of_decide_eq_true (by assumption); have q116 : x49_3 < (l0_3.length : Int) := of_decide_eq_true (by assumption); obtain ⟨ad116, A116_0, c116_0, e116, hx116_0, hl116_0, hi116_0⟩ := at_L1 HR0_3.out x49_3 p116 q116; cases e116; replace hx116_0 := (HB.out.cell (World.block_lt_of_cell? w _ hx116_0)).trans hx116_0; have HR116_0 := Aside0.mk hi116_0; have HC116_0 := Aside0.mk hl116_0; clear hi116_0 hl116_0; replace p116 := eq_true p116; replace q116 := eq_true q116; have p117 : 0 ≤ (0 : Int) := (by omega)
                         have q117 : 0 < ((rd_L1 l0_3 x49_3).length : Int) := of_decide_eq_true (by assumption); obtain ⟨ad117, e117, hx117_0⟩ := Kd.at_int HR116_0.out 0 p117 q117; cases e117; have qi117 : (0 < (rd_L1 l0_3 x49_3).length) = True := eq_true (by omega); (try rw [show ((0 : Int)).toNat = 0 from rfl] at hx117_0); (try rw [Addr.add_zero'] at hx117_0); replace hx117_0 := (HB.out.cell (World.block_lt_of_cell? w _ hx117_0)).trans hx117_0; replace p117 := eq_true p117; replace q117 := eq_true q117; obtain ⟨Ao38, co38, eo38⟩ := Kd.R_slice HO_3.out; subst eo38; go_wp2_with (first | ((with_reducible refine gate_callee (f := 63) rfl ?_); refine goesL_ (some 57) rfl rfl Try.func63 (by kernel_rfl) rfl #[.slice Ao38 x3_3.length co38, .int .i64 (rd (rd_L1 l0_3 x49_3) 0)] rfl (by (try simp only [List.map_toArray, List.map_cons, List.map_nil]); first | done | rfl | (simp only [List.length_drop, List.length_take]; rfl)) ?_; (with_reducible refine (spec_l1Has.calls k3 _ _ x3_3 (rd (rd_L1 l0_3 x49_3) 0) false _ ?side1 ?side2 A31.out).mono ?_); (case side1 => repeat (first | exact (Kd.R_reads' HO_3.out).2.2 | refine Kd.C_alloc ?_ _ | refine Kd.C_drewN ?_ _ | refine Kd.C_drew ?_)); (case side2 => exact (Kd.R_reads' HO_3.out).2.1); rintro e w' ⟨rfl, ⟨nd, rfl⟩⟩; refine ⟨_, rfl, ?_⟩; have p119 : 0 ≤ (1 : Int) := (by omega); have q119 : 1 < ((rd_L1 l0_3 x49_3).length : Int) := of_decide_eq_true (by assumption); obtain ⟨ad119, e119, hx119_0⟩ := Kd.at_int HR116_0.out 1 p119 q119; obtain rfl : ad117 = ad119 := (by injection e119); (try simp only [show (1 : Int).toNat = 1 from rfl, Nat.reduceMul, Nat.reduceEqDiff, Go.Addr.add, ↓reduceIte] at hx119_0); have qi119 : (1 < (rd_L1 l0_3 x49_3).length) = True := eq_true (by omega); (try rw [show ((1 : Int)).toNat = 1 from rfl] at hx119_0); replace hx119_0 := (HB.out.cell (World.block_lt_of_cell? w _ hx119_0)).trans hx119_0; replace p119 := eq_true p119; replace q119 := eq_true q119) | (go_at_call 63; (with_reducible refine (spec_l1Has.calls k3 _ _ x3_3 (rd (rd_L1 l0_3 x49_3) 1) true _ ?side1 ?side2 A35.out).mono ?_); (case side1 => repeat (first | exact (Kd.R_reads' HO_3.out).2.2 | refine Kd.C_alloc ?_ _ | refine Kd.C_drewN ?_ _ | refine Kd.C_drew ?_)); (case side2 => exact (Kd.R_reads' HO_3.out).2.1); rintro e w' ⟨rfl, ⟨nd, rfl⟩⟩; have p121 : 0 ≤ (0 : Int) := (by omega); have q121 : 0 < ((rd_L1 l0_3 x49_3).length : Int) := of_decide_eq_true (by assumption); obtain ⟨ad121, e121, hx121_0⟩ := Kd.at_int HR116_0.out 0 p121 q121; obtain rfl : ad117 = ad121 := (by injection e121); have qi121 : (0 < (rd_L1 l0_3 x49_3).length) = True := eq_true (by omega); (try rw [show ((0 : Int)).toNat = 0 from rfl] at hx121_0); (try rw [Addr.add_zero'] at hx121_0); replace hx121_0 := (HB.out.cell (World.block_lt_of_cell? w _ hx121_0)).trans hx121_0; replace p121 := eq_true p121; replace q121 := eq_true q121) | ((with_reducible refine gate_callee (f := 66) rfl ?_); refine goesL_ (some 70) rfl rfl Try.func66 (by kernel_rfl) rfl #[.slice Ao38 x3_3.length co38, .int .i64 (rd (rd_L1 l0_3 x49_3) 0)] rfl (by (try simp only [List.map_toArray, List.map_cons, List.map_nil]); first | done | rfl | (simp only [List.length_drop, List.length_take]; rfl)) ?_; (with_reducible refine (spec_l1Put.calls k3 (fun k_ => some k_ = (.slice Ao38 x3_3.length co38 : Value).ownBlock) (.slice Ao38 x3_3.length co38) x3_3 (rd (rd_L1 l0_3 x49_3) 0) t122 w _ ?side1 ?side2 A37.out).mono ?_); (case side1 => repeat (first | (with_reducible first | exact HB.out | apply below_alloc | apply pw_below_drewN | apply below_drew1 | refine below_set ?_ GE101.out) | exact HB.out)); (case side2 => exact Kd.R_tight rfl HO_3.out); rintro e w39 ⟨v123, rfl, ho0, hb, hkp⟩; refine ⟨_, rfl, ?_⟩; have n0_ := Aside0.mk (blk_kept (by (with_reducible repeat (first | refine blk_drewN ?_ _ | refine blk_drew ?_ | refine blk_alloc ?_ _)); exact BK101.out) hkp (fun hs_ => (fun e_ => (Kd.R_ne HO_3.out BK101.out (by decide)) e_) hs_)); have n1_ := Aside0.mk (Kd.R_mono (ok' := fun k_ => True) ho0 (fun k_ hk_ => trivial)); have n2_ := Aside0.mk (hb); clear BK101; clear HB; clear HO_3; have BK101 := n0_; have HO124 := n1_; have HB := n2_; clear n0_ n1_ n2_; (try clear hb); (try clear hkp); (try clear ho0)))
                         go_roundg k3
                         case measure => have := HK1.out; have := HK2.out; have := HK3.out; omega
                         case rel => exact ⟨(t122), (true), (wrap64 (x49_3 + 1)), (by first | rfl | (simp; done) | (simp [*]; done)), (by first | rfl | (simp; done) | (simp [*]; done)), H', ⟨by have := HK1.out; have := HK2.out; have := HK3.out; omega⟩, ⟨by (with_reducible repeat (first | apply Kd.R_alloc | apply Kd.R_drewN | apply Kd.R_drew)); exact HO124.out⟩, ⟨by (with_reducible repeat (first | refine blk_drewN ?_ _ | refine blk_drew ?_ | refine blk_alloc ?_ _)); exact BK101.out⟩, ⟨by repeat (first | (with_reducible first | exact HB.out | apply below_alloc | apply pw_below_drewN | apply below_drew1 | refine below_set ?_ GE101.out) | exact HB.out)⟩⟩
                       · replace c36 := Bool.eq_false_iff.mpr c36; subst c36; have H1 : (spec_l5Null.l2 k3 x3_3 x4_3 l0_3 (l0_3.length : Int) (wrap64 (x49_3 + 1)) a0_0 a0_1 l0_2 l0_3 l0_4 l0_5) = some r := by rw [if_neg (show ¬ (false = true) by decide)] at H; exact H
                         clear H; have H := H1; clear H1; have H' := Aside0.mk H; clear H; have p116 : 0 ≤ (x49_3 : Int) := of_decide_eq_true (by assumption); have q116 : x49_3 < (l0_3.length : Int) := of_decide_eq_true (by assumption); obtain ⟨ad116, A116_0, c116_0, e116, hx116_0, hl116_0, hi116_0⟩ := at_L1 HR0_3.out x49_3 p116 q116; cases e116; replace hx116_0 := (HB.out.cell (World.block_lt_of_cell? w _ hx116_0)).trans hx116_0; have HR116_0 := Aside0.mk hi116_0; have HC116_0 := Aside0.mk hl116_0; clear hi116_0 hl116_0; replace p116 := eq_true p116; replace q116 := eq_true q116; have p117 : 0 ≤ (0 : Int) := (by omega)
                         have q117 : 0 < ((rd_L1 l0_3 x49_3).length : Int) := of_decide_eq_true (by assumption); obtain ⟨ad117, e117, hx117_0⟩ := Kd.at_int HR116_0.out 0 p117 q117; cases e117; have qi117 : (0 < (rd_L1 l0_3 x49_3).length) = True := eq_true (by omega); (try rw [show ((0 : Int)).toNat = 0 from rfl] at hx117_0); (try rw [Addr.add_zero'] at hx117_0); replace hx117_0 := (HB.out.cell (World.block_lt_of_cell? w _ hx117_0)).trans hx117_0; replace p117 := eq_true p117; replace q117 := eq_true q117; obtain ⟨Ao40, co40, eo40⟩ := Kd.R_slice HO_3.out; subst eo40; go_wp2_with (first | ((with_reducible refine gate_callee (f := 63) rfl ?_); refine goesL_ (some 57) rfl rfl Try.func63 (by kernel_rfl) rfl #[.slice Ao40 x3_3.length co40, .int .i64 (rd (rd_L1 l0_3 x49_3) 0)] rfl (by (try simp only [List.map_toArray, List.map_cons, List.map_nil]); first | done | rfl | (simp only [List.length_drop, List.length_take]; rfl)) ?_; (with_reducible refine (spec_l1Has.calls k3 _ _ x3_3 (rd (rd_L1 l0_3 x49_3) 0) false _ ?side1 ?side2 A31.out).mono ?_); (case side1 => repeat (first | exact (Kd.R_reads' HO_3.out).2.2 | refine Kd.C_alloc ?_ _ | refine Kd.C_drewN ?_ _ | refine Kd.C_drew ?_)); (case side2 => exact (Kd.R_reads' HO_3.out).2.1); rintro e w' ⟨rfl, ⟨nd, rfl⟩⟩; refine ⟨_, rfl, ?_⟩; have p119 : 0 ≤ (1 : Int) := (by omega); have q119 : 1 < ((rd_L1 l0_3 x49_3).length : Int) := of_decide_eq_true (by assumption); obtain ⟨ad119, e119, hx119_0⟩ := Kd.at_int HR116_0.out 1 p119 q119; obtain rfl : ad117 = ad119 := (by injection e119); (try simp only [show (1 : Int).toNat = 1 from rfl, Nat.reduceMul, Nat.reduceEqDiff, Go.Addr.add, ↓reduceIte] at hx119_0); have qi119 : (1 < (rd_L1 l0_3 x49_3).length) = True := eq_true (by omega); (try rw [show ((1 : Int)).toNat = 1 from rfl] at hx119_0); replace hx119_0 := (HB.out.cell (World.block_lt_of_cell? w _ hx119_0)).trans hx119_0; replace p119 := eq_true p119; replace q119 := eq_true q119) | (go_at_call 63; (with_reducible refine (spec_l1Has.calls k3 _ _ x3_3 (rd (rd_L1 l0_3 x49_3) 1) false _ ?side1 ?side2 A35.out).mono ?_); (case side1 => repeat (first | exact (Kd.R_reads' HO_3.out).2.2 | refine Kd.C_alloc ?_ _ | refine Kd.C_drewN ?_ _ | refine Kd.C_drew ?_)); (case side2 => exact (Kd.R_reads' HO_3.out).2.1); rintro e w' ⟨rfl, ⟨nd, rfl⟩⟩))
                         go_roundg k3
                         case measure => have := HK1.out; have := HK2.out; have := HK3.out; omega
                         case rel => exact ⟨(x3_3), (x4_3), (wrap64 (x49_3 + 1)), (by first | rfl | (simp; done) | (simp [*]; done)), (by first | rfl | (simp; done) | (simp [*]; done)), H', ⟨by have := HK1.out; have := HK2.out; have := HK3.out; omega⟩, ⟨by (with_reducible repeat (first | apply Kd.R_alloc | apply Kd.R_drewN | apply Kd.R_drew)); exact HO_3.out⟩, ⟨by (with_reducible repeat (first | refine blk_drewN ?_ _ | refine blk_drew ?_ | refine blk_alloc ?_ _)); exact BK101.out⟩, ⟨by repeat (first | (with_reducible first | exact HB.out | apply below_alloc | apply pw_below_drewN | apply below_drew1 | refine below_set ?_ GE101.out) | exact HB.out)⟩⟩
                     · rw [if_neg c34] at H; exact absurd H (by simp)
                 · rw [if_neg c30] at H; exact absurd H (by simp)
               · rw [if_neg c29] at H; exact absurd H (by simp)
             · rw [if_neg c28] at H; exact absurd H (by simp)
           · rw [if_neg c27] at H; have c27b0 : decide (x49_3 < (l0_3.length : Int)) = false := decide_eq_false c27; clear c27; have H' := Aside0.mk H; clear H; go_wp2
             go_roundg k3
             case measure => have := HK1.out; have := HK2.out; have := HK3.out; omega
             case rel => exact ⟨(x3_3), (x4_3), (by first | rfl | (simp; done) | (simp [*]; done)), H', ⟨by have := HK1.out; have := HK2.out; have := HK3.out; omega⟩, ⟨by (with_reducible repeat (first | apply Kd.R_alloc | apply Kd.R_drewN | apply Kd.R_drew)); exact HO_3.out⟩, ⟨by (with_reducible repeat (first | refine blk_drewN ?_ _ | refine blk_drew ?_ | refine blk_alloc ?_ _)); exact BK101.out⟩, ⟨by repeat (first | (with_reducible first | exact HB.out | apply below_alloc | apply pw_below_drewN | apply below_drew1 | refine below_set ?_ GE101.out) | exact HB.out)⟩⟩
   · replace c6 := Bool.eq_false_iff.mpr c6; subst c6; have H1 : (some x3_1) = some r := by rw [if_neg (show ¬ (false = true) by decide)] at H; exact H
     clear H; have H := H1; clear H1; obtain rfl := Option.some.inj H; go_wp2; go_ret; exact ⟨_, by first | rfl | (simp [errW_none, errW_some] <;> rfl) | (simp [*, errW_none, errW_some] <;> rfl), by (with_reducible repeat (first | apply Kd.R_alloc | apply Kd.R_drewN | apply Kd.R_drew)); exact HO_3.out, by repeat (first | (with_reducible first | exact HB.out | apply below_alloc | apply pw_below_drewN | apply below_drew1 | refine below_set ?_ GE101.out) | exact HB.out)⟩
end Go.Proofs.Ytkocahlifffgjaa.P
namespace Go.Proofs.Ytkocahlifffgjaa.P
open Go.RowKit Go.Proofs.YtkocahlifffgjaaW.PrintWords
set_option linter.unusedVariables false
set_option linter.unusedSimpArgs false
theorem putI_len_new (l : List Int) (n : Int) (h : n ∉ l) : (putI l n).length = l.length + 1 := by
 induction l with
 | nil => rfl
 | cons a l ih =>
  have h1 : n ≠ a := fun e => h (e ▸ List.mem_cons_self)
  have h2 : n ∉ l := fun e => h (List.mem_cons_of_mem _ e)
  simp only [putI]; by_cases c : a < n
  · rw [if_pos c, List.length_cons, ih h2]; rfl
  · rw [if_neg c, if_neg (fun e => h1 e.symm)]; rfl
structure NlI (n : Nat) (es : List Int) (rows : List (List Int)) (out : List Int) : Prop where
 up : UpI out
 lo : ∀ x, x ∈ es → x ∈ out
 hi : ∀ x, x ∈ out → (0 ≤ x ∧ x < n) ∧ NulR es rows x
def clR (out : List Int) (l : List Int) : Prop := rd l 0 ∈ out ∨ ∃ j : Nat, 1 ≤ j ∧ j < l.length ∧ rd l j ∉ out
theorem NlI.len {n : Nat} {es : List Int} {rows : List (List Int)} {out : List Int} (h : NlI n es rows out) : out.length ≤ n := by
 have := upI_len out 0 n h.up (fun x hx => (h.hi x hx).1) (by omega); omega
theorem NlI.put {n : Nat} {es : List Int} {rows : List (List Int)} {out : List Int} (h : NlI n es rows out) {l : List Int} (hl : l ∈ rows) (h0 : 0 ≤ rd l 0 ∧ rd l 0 < n) (hj : ∀ j : Nat, 1 ≤ j → j < l.length → rd l j ∈ out) : NlI n es rows (putI out (rd l 0)) :=
 ⟨upI_put _ _ h.up, fun x hx => (mem_putI _ _ _).2 (.inr (h.lo x hx)), fun x hx => by
  rcases (mem_putI _ _ _).1 hx with e | e
  · rw [e]; exact ⟨h0, .step hl (fun j a b => (h.hi _ (hj j a b)).1.1) (fun j a b => (h.hi _ (hj j a b)).2)⟩
  · exact h.hi x e⟩
theorem NlI.fin {n : Nat} {es : List Int} {rows : List (List Int)} {out : List Int} (h : NlI n es rows out) (hr : rowsIn n rows) (he : ∀ x, x ∈ es → 0 ≤ x ∧ x < n) (hc : ∀ l, l ∈ rows → clR out l) : out = setB (nulV n es rows) := by
 refine setB_of h.up fun x => ?_
 rw [nulV_len hr he]; have key : ∀ x : Int, 0 ≤ x → x < n → ((nulV n es rows).getD x.toNat false = true ↔ NulR es rows x) := fun z h0 h1 => by
  have := nulV_at hr he (i := z.toNat) (by omega); rwa [show ((z.toNat : Nat) : Int) = z by omega] at this
 constructor
 · intro hx; obtain ⟨h1, h2⟩ := h.hi x hx; exact ⟨h1, (key x h1.1 h1.2).2 h2⟩
 · rintro ⟨h1, h2⟩; exact ((key x h1.1 h1.2).1 h2).least (T := fun x => x ∈ out) h.lo (fun l hl hj => (hc l hl).elim id (fun ⟨j, a, b, hn⟩ => absurd (hj j a b).2 hn))
structure PsI (n : Nat) (es : List Int) (rows : List (List Int)) (m0 : Nat) (done : List Int → Prop) (out : List Int) (more : Bool) : Prop where
 ni : NlI n es rows out
 le : m0 ≤ out.length
 lt : more = true → m0 < out.length
 cl : more = false → ∀ l, done l → clR out l
theorem PsI.skip {n : Nat} {es : List Int} {rows : List (List Int)} {m0 : Nat} {done done' : List Int → Prop} {out : List Int} {more : Bool} (h : PsI n es rows m0 done out more) {l : List Int} (hd : ∀ x, done' x → done x ∨ x = l) (hc : clR out l) : PsI n es rows m0 done' out more :=
 ⟨h.ni, h.le, h.lt, fun hm x hx => (hd x hx).elim (h.cl hm x) (fun e => by rw [e]; exact hc)⟩
theorem PsI.put {n : Nat} {es : List Int} {rows : List (List Int)} {m0 : Nat} {done done' : List Int → Prop} {out : List Int} {more : Bool} (h : PsI n es rows m0 done out more) {l : List Int} (hl : l ∈ rows) (h0 : 0 ≤ rd l 0 ∧ rd l 0 < n) (hn : rd l 0 ∉ out) (hj : ∀ j : Nat, 1 ≤ j → j < l.length → rd l j ∈ out) : PsI n es rows m0 done' (putI out (rd l 0)) true := by
 have hlen := putI_len_new out (rd l 0) hn; have := h.le; exact ⟨h.ni.put hl h0 hj, by omega, fun _ => by omega, fun e => by cases e⟩
def fstOf (rs : List (List Int)) (i : Nat) (l : List Int) : Prop := ∃ j : Nat, j < i ∧ l = rs.getD j []
theorem fstOf_succ {rs : List (List Int)} {i : Nat} {l : List Int} (h : fstOf rs (i + 1) l) : fstOf rs i l ∨ l = rs.getD i [] := by
 obtain ⟨j, hj, e⟩ := h; by_cases c : j = i
 · subst c; exact .inr e
 · exact .inl ⟨j, by omega, e⟩
theorem fstOf_all {rs : List (List Int)} {l : List Int} (h : l ∈ rs) {i : Nat} (hi : rs.length ≤ i) : fstOf rs i l := by
 obtain ⟨j, hj, rfl⟩ := List.getElem_of_mem h; exact ⟨j, by omega, by rw [List.getD_eq_getElem?_getD, List.getElem?_eq_getElem hj]; rfl⟩
section
variable {n : Nat} {toks : Int} {ps os : List (List Int)} {es : List Int} {fs : List (List Int)} (ok : OkB (n : Int) toks ps os es)
include ok
theorem null_l2 (ho : os.length ≤ 9223372036854775807) (X : List Int) (m0 : Nat) (h0 : ∀ out more, PsI n es (ps ++ os) m0 (fun l => l ∈ ps ∨ l ∈ os) out more → Ev (fun k => spec_l5Null.l0 k out more (n : Int) toks ps os es fs) X) (d : Nat) : ∀ (i : Nat) (out : List Int) (more : Bool), i ≤ os.length → os.length - i = d → PsI n es (ps ++ os) m0 (fun l => l ∈ ps ∨ fstOf os i l) out more →
 Ev (fun k => spec_l5Null.l2 k out more os os.length i (n : Int) toks ps os es fs) X := by
 have hn40 := ok.n
 induction d with
 | zero =>
  intro i out more h1 hd hp; obtain ⟨K, h⟩ := h0 out more ⟨hp.ni, hp.le, hp.lt, fun hm l hl => hp.cl hm l (hl.imp id fun h => fstOf_all h (by omega))⟩; dsimp only at h; refine ⟨K + 1, fun k hk => ?_⟩; dsimp only; obtain ⟨k, rfl⟩ : ∃ m, k = m + 1 := ⟨k - 1, by omega⟩
  simp only [spec_l5Null.l2]; rw [if_neg (by omega)]; exact h k (by omega)
 | succ d ih =>
  intro i out more h1 hd hp; have hil : i < os.length := by omega
  have hlen := hp.ni.len; have hmem : rd_L1 os i ∈ os := by unfold rd_L1; rw [Int.toNat_natCast, List.getD_eq_getElem?_getD, List.getElem?_eq_getElem hil]; exact List.getElem_mem hil
  have ew : wrap64 ((i : Int) + 1) = ((i + 1 : Nat) : Int) := wsuccL hil ho; have eg : os.getD i [] = rd_L1 os i := rfl; obtain ⟨y2, yin⟩ := ok.o _ hmem; have skip : clR out (rd_L1 os i) → Ev (fun k => spec_l5Null.l2 k out more os os.length (wrap64 ((i : Int) + 1)) (n : Int) toks ps os es fs) X := fun hc => by
   rw [ew]; exact ih (i + 1) out more (by omega) (by omega) (hp.skip (l := rd_L1 os i) (fun x hx => hx.elim (fun h => .inl (.inl h)) (fun h => (fstOf_succ h).imp .inr (fun e => by rw [e, eg]))) hc)
  have put : rd (rd_L1 os i) 0 ∉ out → rd (rd_L1 os i) 1 ∈ out → Ev (fun k => spec_l5Null.l2 k (putI out (rd (rd_L1 os i) 0)) true os os.length (wrap64 ((i : Int) + 1)) (n : Int) toks ps os es fs) X := fun hn h1 => by
   rw [ew]; exact ih (i + 1) _ true (by omega) (by omega) (hp.put (List.mem_append_right _ hmem) yin.1 hn (fun j a b => by rw [show j = 1 by omega]; exact h1))
  obtain ⟨y, hy⟩ : ∃ y, y = rd_L1 os i := ⟨_, rfl⟩
  rw [← hy] at y2 skip put; by_cases c0 : rd y 0 ∈ out
  · obtain ⟨K, h⟩ := skip (.inl c0); dsimp only at h; refine ⟨K + 100, fun k hk => ?_⟩; dsimp only; obtain ⟨k, rfl⟩ : ∃ m, k = m + 1 := ⟨k - 1, by omega⟩
    simp only [spec_l5Null.l2]; rw [if_pos (by omega), if_pos (by omega), if_pos (by omega), ← hy, if_pos (by omega), has_eq out _ (by omega) k (by omega), decide_eq_true c0]; exact h k (by omega)
  · by_cases c1 : rd y 1 ∈ out
    · obtain ⟨K, h⟩ := put c0 c1; dsimp only at h; refine ⟨K + 100, fun k hk => ?_⟩; dsimp only; obtain ⟨k, rfl⟩ : ∃ m, k = m + 1 := ⟨k - 1, by omega⟩
      simp only [spec_l5Null.l2]; rw [if_pos (by omega), if_pos (by omega), if_pos (by omega), ← hy, if_pos (by omega), has_eq out _ (by omega) k (by omega), has_eq out _ (by omega) k (by omega), decide_eq_false c0, decide_eq_true c1, put_eq out _ (by omega) k (by omega)]; simp only [Option.bind_some]; rw [if_neg (by decide), if_pos (by omega), if_pos trivial]; exact h k (by omega)
    · obtain ⟨K, h⟩ := skip (.inr ⟨1, by omega, by omega, c1⟩); dsimp only at h; refine ⟨K + 100, fun k hk => ?_⟩; dsimp only; obtain ⟨k, rfl⟩ : ∃ m, k = m + 1 := ⟨k - 1, by omega⟩
      simp only [spec_l5Null.l2]; rw [if_pos (by omega), if_pos (by omega), if_pos (by omega), ← hy, if_pos (by omega), has_eq out _ (by omega) k (by omega), has_eq out _ (by omega) k (by omega), decide_eq_false c0, decide_eq_false c1]; simp only [Option.bind_some]; rw [if_neg (by decide), if_pos (by omega), if_neg (by decide)]; exact h k (by omega)
theorem null_l1 (hpl : ps.length ≤ 9223372036854775807) (X : List Int) (m0 : Nat) (h0 : ∀ out more, PsI n es (ps ++ os) m0 (fun l => l ∈ ps ∨ fstOf os 0 l) out more → Ev (fun k => spec_l5Null.l2 k out more os os.length 0 (n : Int) toks ps os es fs) X) (d : Nat) : ∀ (i : Nat) (out : List Int) (more : Bool), i ≤ ps.length → ps.length - i = d → PsI n es (ps ++ os) m0 (fun l => fstOf ps i l) out more →
 Ev (fun k => spec_l5Null.l1 k out more ps ps.length i (n : Int) toks ps os es fs) X := by
 have hn40 := ok.n
 induction d with
 | zero =>
  intro i out more h1 hd hp; obtain ⟨K, h⟩ := h0 out more ⟨hp.ni, hp.le, hp.lt, fun hm l hl => hp.cl hm l (hl.elim (fun h => fstOf_all h (by omega)) (fun ⟨j, hj, _⟩ => by omega))⟩; dsimp only at h; refine ⟨K + 1, fun k hk => ?_⟩; dsimp only; obtain ⟨k, rfl⟩ : ∃ m, k = m + 1 := ⟨k - 1, by omega⟩
  simp only [spec_l5Null.l1]; rw [if_neg (by omega)]; exact h k (by omega)
 | succ d ih =>
  intro i out more h1 hd hp; have hil : i < ps.length := by omega
  have hlen := hp.ni.len; have hmem : rd_L1 ps i ∈ ps := by unfold rd_L1; rw [Int.toNat_natCast, List.getD_eq_getElem?_getD, List.getElem?_eq_getElem hil]; exact List.getElem_mem hil
  have ew : wrap64 ((i : Int) + 1) = ((i + 1 : Nat) : Int) := wsuccL hil hpl; have eg : ps.getD i [] = rd_L1 ps i := rfl; obtain ⟨y2, yin⟩ := ok.p _ hmem; have skip : clR out (rd_L1 ps i) → Ev (fun k => spec_l5Null.l1 k out more ps ps.length (wrap64 ((i : Int) + 1)) (n : Int) toks ps os es fs) X := fun hc => by
   rw [ew]; exact ih (i + 1) out more (by omega) (by omega) (hp.skip (l := rd_L1 ps i) (fun x hx => (fstOf_succ hx).imp id (fun e => by rw [e, eg])) hc)
  have put : rd (rd_L1 ps i) 0 ∉ out → rd (rd_L1 ps i) 1 ∈ out → rd (rd_L1 ps i) 2 ∈ out → Ev (fun k => spec_l5Null.l1 k (putI out (rd (rd_L1 ps i) 0)) true ps ps.length (wrap64 ((i : Int) + 1)) (n : Int) toks ps os es fs) X := fun hn h1 h2 => by
   rw [ew]; exact ih (i + 1) _ true (by omega) (by omega) (hp.put (List.mem_append_left _ hmem) yin.1 hn (fun j a b => by
    have : j = 1 ∨ j = 2 := by omega
    rcases this with e | e
    · rw [e]; exact h1
    · rw [e]; exact h2))
  obtain ⟨y, hy⟩ : ∃ y, y = rd_L1 ps i := ⟨_, rfl⟩
  rw [← hy] at y2 skip put; by_cases c0 : rd y 0 ∈ out
  · obtain ⟨K, h⟩ := skip (.inl c0); dsimp only at h; refine ⟨K + 100, fun k hk => ?_⟩; dsimp only; obtain ⟨k, rfl⟩ : ∃ m, k = m + 1 := ⟨k - 1, by omega⟩
    simp only [spec_l5Null.l1]; rw [if_pos (by omega), if_pos (by omega), if_pos (by omega), ← hy, if_pos (by omega), has_eq out _ (by omega) k (by omega), decide_eq_true c0]; exact h k (by omega)
  · by_cases c1 : rd y 1 ∈ out
    · by_cases c2 : rd y 2 ∈ out
      · obtain ⟨K, h⟩ := put c0 c1 c2; dsimp only at h; refine ⟨K + 100, fun k hk => ?_⟩; dsimp only; obtain ⟨k, rfl⟩ : ∃ m, k = m + 1 := ⟨k - 1, by omega⟩
        simp only [spec_l5Null.l1]; rw [if_pos (by omega), if_pos (by omega), if_pos (by omega), ← hy, if_pos (by omega), has_eq out _ (by omega) k (by omega), has_eq out _ (by omega) k (by omega), has_eq out _ (by omega) k (by omega), decide_eq_false c0, decide_eq_true c1, decide_eq_true c2, put_eq out _ (by omega) k (by omega)]; simp only [Option.bind_some]; rw [if_neg (by decide), if_pos (by omega), if_pos trivial, if_pos (by omega), if_pos trivial]; exact h k (by omega)
      · obtain ⟨K, h⟩ := skip (.inr ⟨2, by omega, by omega, c2⟩); dsimp only at h; refine ⟨K + 100, fun k hk => ?_⟩; dsimp only; obtain ⟨k, rfl⟩ : ∃ m, k = m + 1 := ⟨k - 1, by omega⟩
        simp only [spec_l5Null.l1]; rw [if_pos (by omega), if_pos (by omega), if_pos (by omega), ← hy, if_pos (by omega), has_eq out _ (by omega) k (by omega), has_eq out _ (by omega) k (by omega), has_eq out _ (by omega) k (by omega), decide_eq_false c0, decide_eq_true c1, decide_eq_false c2]; simp only [Option.bind_some]; rw [if_neg (by decide), if_pos (by omega), if_pos trivial, if_pos (by omega), if_neg (by decide)]; exact h k (by omega)
    · obtain ⟨K, h⟩ := skip (.inr ⟨1, by omega, by omega, c1⟩); dsimp only at h; refine ⟨K + 100, fun k hk => ?_⟩; dsimp only; obtain ⟨k, rfl⟩ : ∃ m, k = m + 1 := ⟨k - 1, by omega⟩
      simp only [spec_l5Null.l1]; rw [if_pos (by omega), if_pos (by omega), if_pos (by omega), ← hy, if_pos (by omega), has_eq out _ (by omega) k (by omega), has_eq out _ (by omega) k (by omega), decide_eq_false c0, decide_eq_false c1]; simp only [Option.bind_some]; rw [if_neg (by decide), if_pos (by omega), if_neg (by decide)]; exact h k (by omega)
theorem null_l0 (hpl : ps.length ≤ 9223372036854775807) (hol : os.length ≤ 9223372036854775807) (d : Nat) : ∀ out : List Int, NlI n es (ps ++ os) out → n - out.length ≤ d →
 Ev (fun k => spec_l5Null.l0 k out true (n : Int) toks ps os es fs) (setB (nulV n es (ps ++ os))) := by
 induction d with
 | zero =>
  intro out h hd; refine (Ev.step (f := fun k => spec_l5Null.l1 k out false ps ps.length 0 (n : Int) toks ps os es fs) (fun k => by simp only [spec_l5Null.l0]; rw [if_pos trivial]) ?_); refine null_l1 ok hpl _ out.length (fun out1 m1 h1 => null_l2 ok hol _ out.length (fun out2 m2 h2 => ?_) os.length 0 out1 m1 (Nat.zero_le _) rfl h1) ps.length 0 out false (Nat.zero_le _) rfl ⟨h, Nat.le_refl _, (fun e => by cases e), fun _ l ⟨j, hj, _⟩ => by omega⟩; cases m2 with
  | true => have a1 := h2.lt rfl; have a2 := h2.ni.len; omega
  | false =>
   refine ⟨1, fun k hk => ?_⟩; dsimp only; obtain ⟨k, rfl⟩ : ∃ m, k = m + 1 := ⟨k - 1, by omega⟩
   simp only [spec_l5Null.l0]; rw [if_neg (by decide), h2.ni.fin (okB_rows ok) ok.e (fun l hl => h2.cl rfl l (List.mem_append.1 hl))]
 | succ d ih =>
  intro out h hd; refine (Ev.step (f := fun k => spec_l5Null.l1 k out false ps ps.length 0 (n : Int) toks ps os es fs) (fun k => by simp only [spec_l5Null.l0]; rw [if_pos trivial]) ?_); refine null_l1 ok hpl _ out.length (fun out1 m1 h1 => null_l2 ok hol _ out.length (fun out2 m2 h2 => ?_) os.length 0 out1 m1 (Nat.zero_le _) rfl h1) ps.length 0 out false (Nat.zero_le _) rfl ⟨h, Nat.le_refl _, (fun e => by cases e), fun _ l ⟨j, hj, _⟩ => by omega⟩; cases m2 with
  | true => exact ih out2 h2.ni (by have a1 := h2.lt rfl; omega)
  | false =>
   refine ⟨1, fun k hk => ?_⟩; dsimp only; obtain ⟨k, rfl⟩ : ∃ m, k = m + 1 := ⟨k - 1, by omega⟩
   simp only [spec_l5Null.l0]; rw [if_neg (by decide), h2.ni.fin (okB_rows ok) ok.e (fun l hl => h2.cl rfl l (List.mem_append.1 hl))]
theorem l5Null_ev (hpl : ps.length ≤ 9223372036854775807) (hol : os.length ≤ 9223372036854775807) : Ev (fun k => spec_l5Null.f k (n : Int) toks ps os es fs) (setB (nulV n es (ps ++ os))) := by
 have h40 := ok.n; have hl : es.length ≤ n := by
  have := upI_len es 0 n ok.eu (fun x hx => ok.e x hx) (by omega); omega
 obtain ⟨K, h⟩ := null_l0 (fs := fs) ok hpl hol n es ⟨ok.eu, fun _ h => h, fun x hx => ⟨ok.e x hx, .base hx⟩⟩ (by omega); dsimp only at h; refine ⟨K, fun k hk => ?_⟩; dsimp only; unfold spec_l5Null.f; rw [own_eq es (by omega)]; exact h k hk
end
def keepA (xs : List (List Int)) (j : Nat) : Bool := decide (j = 0 ∨ xs.getD j [] ≠ xs.getD (j - 1) [])
def dedupZ (xs : List (List Int)) (m : Nat) : List (List Int × Nat) := (xs.zipIdx.take m).filter fun z => keepA xs z.2
def dedupA (xs : List (List Int)) : List (List Int) := (dedupZ xs xs.length).map Prod.fst
theorem zipAt {xs : List (List Int)} {j : Nat} (hj : j < xs.length) : xs.zipIdx[j]? = some (xs.getD j [], j) := by
 rw [List.getElem?_zipIdx, List.getElem?_eq_getElem hj, Nat.zero_add, List.getD_eq_getElem?_getD, List.getElem?_eq_getElem hj]; rfl
theorem dedupZ_succ {xs : List (List Int)} {j : Nat} (hj : j < xs.length) : dedupZ xs (j + 1) = dedupZ xs j ++ if keepA xs j = true then [(xs.getD j [], j)] else [] := by
 unfold dedupZ; rw [List.take_add_one, zipAt hj, List.filter_append]; congr 1; cases h : keepA xs j with
 | true => simp [h]
 | false => simp [h]
def CmpI (xs : List (List Int)) (zs : List (List Int × Nat)) (i j : Nat) : Prop :=
 zs.length = xs.length ∧ i + 1 ≤ j ∧ j ≤ xs.length ∧ zs.take i = dedupZ xs j ∧ zs.drop (j - 1) = xs.zipIdx.drop (j - 1)
theorem cmpI_start {xs : List (List Int)} {k : Nat} (h1 : 1 ≤ k) (hk : k < xs.length) (h0 : ∀ j, 1 ≤ j → j < k → xs.getD j [] ≠ xs.getD (j - 1) []) (he : xs.getD k [] = xs.getD (k - 1) []) : CmpI xs xs.zipIdx k (k + 1) := by
 have hl : xs.zipIdx.length = xs.length := List.length_zipIdx; refine ⟨hl, Nat.le_refl _, hk, ?_, rfl⟩; have e : keepA xs k = false := by unfold keepA; exact decide_eq_false (fun h => h.elim (by omega) (fun h => h he))
 rw [dedupZ_succ hk, e, if_neg (by decide), List.append_nil]; unfold dedupZ; rw [List.filter_eq_self.2]; intro z hz; obtain ⟨j, hj, rfl⟩ := List.getElem_of_mem hz; rw [List.length_take] at hj; have hz2 : ((xs.zipIdx.take k)[j]'(by rw [List.length_take]; exact hj)).2 = j := by simp
 rw [hz2]; unfold keepA; refine decide_eq_true ?_; by_cases c : j = 0
 · exact .inl c
 · exact .inr (h0 j (by omega) (by omega))
theorem cmpI_at {xs : List (List Int)} {zs : List (List Int × Nat)} {i j : Nat} (h : CmpI xs zs i j) (m : Nat) (hm : j - 1 ≤ m) (hl : m < xs.length) : zs[m]? = some (xs.getD m [], m) := by
 obtain ⟨h1, h2, h3, h4, h5⟩ := h; have := congrArg (fun l => l[m - (j - 1)]?) h5; simp only [List.getElem?_drop, show j - 1 + (m - (j - 1)) = m by omega] at this; rw [this, zipAt hl]
theorem cmpI_skip {xs : List (List Int)} {zs : List (List Int × Nat)} {i j : Nat} (h : CmpI xs zs i j) (hj : j < xs.length) (he : xs.getD j [] = xs.getD (j - 1) []) : CmpI xs zs i (j + 1) := by
 obtain ⟨h1, h2, h3, h4, h5⟩ := h; refine ⟨h1, by omega, hj, ?_, ?_⟩
 · have e : keepA xs j = false := by unfold keepA; exact decide_eq_false (fun h => h.elim (by omega) (fun h => h he))
   rw [dedupZ_succ hj, e, if_neg (by decide), List.append_nil, h4]
 · have : j + 1 - 1 = j - 1 + 1 := by omega
   rw [this, ← List.drop_drop, h5, List.drop_drop]
theorem cmpI_keep {xs : List (List Int)} {zs : List (List Int × Nat)} {i j : Nat} (h : CmpI xs zs i j) (hj : j < xs.length) (he : xs.getD j [] ≠ xs.getD (j - 1) []) : CmpI xs (zs.set i (xs.getD j [], j)) (i + 1) (j + 1) := by
 obtain ⟨h1, h2, h3, h4, h5⟩ := h; refine ⟨by rw [List.length_set]; exact h1, by omega, hj, ?_, ?_⟩
 · have e : keepA xs j = true := by unfold keepA; exact decide_eq_true (.inr he)
   rw [dedupZ_succ hj, e, if_pos rfl, ← h4, List.take_add_one, List.take_set, List.set_eq_of_length_le (by rw [List.length_take]; omega), List.getElem?_set_self (by omega)]; rfl
 · have : j + 1 - 1 = j - 1 + 1 := by omega
   rw [this, List.drop_set_of_lt (by omega), ← List.drop_drop, h5, List.drop_drop]
theorem zipIdx_fst_take {xs : List (List Int)} (m : Nat) : ((xs.zipIdx.take m).map Prod.snd).Nodup := by
 refine List.Nodup.sublist (List.Sublist.map _ (List.take_sublist _ _)) ?_; rw [List.zipIdx_map_snd]; exact List.nodup_range'
theorem dedupZ_nodup (xs : List (List Int)) (m : Nat) : ((dedupZ xs m).map Prod.snd).Nodup := List.Nodup.sublist (List.Sublist.map _ List.filter_sublist) (zipIdx_fst_take m)
theorem cmpI_end {xs : List (List Int)} {zs : List (List Int × Nat)} {i j : Nat} (h : CmpI xs zs i j) (hj : ¬ j < xs.length) : (zs.take i).map Prod.fst = dedupA xs ∧ ((zs.take i).map Prod.snd).Nodup := by
 obtain ⟨h1, h2, h3, h4, h5⟩ := h; have e : j = xs.length := by omega
 subst e; rw [h4]; exact ⟨rfl, dedupZ_nodup xs _⟩
theorem dedupA_self {xs : List (List Int)} (h0 : ∀ j, 1 ≤ j → j < xs.length → xs.getD j [] ≠ xs.getD (j - 1) []) : dedupA xs = xs := by
 unfold dedupA dedupZ; rw [List.filter_eq_self.2, List.take_of_length_le (by rw [List.length_zipIdx]; exact Nat.le_refl _), List.zipIdx_map_fst]; intro z hz; obtain ⟨j, hj, rfl⟩ := List.getElem_of_mem hz; rw [List.length_take, List.length_zipIdx] at hj; have hz2 : ((xs.zipIdx.take xs.length)[j]'(by rw [List.length_take, List.length_zipIdx]; exact hj)).2 = j := by simp
 rw [hz2]; unfold keepA; refine decide_eq_true ?_; by_cases c : j = 0
 · exact .inl c
 · exact .inr (h0 j (by omega) (by omega))
theorem mem_dedupZ {xs : List (List Int)} {m j : Nat} (hj : j < m) (hl : j < xs.length) (hk : keepA xs j = true) : xs.getD j [] ∈ (dedupZ xs m).map Prod.fst := by
 refine List.mem_map.2 ⟨(xs.getD j [], j), ?_, rfl⟩; unfold dedupZ; refine List.mem_filter.2 ⟨?_, hk⟩; have h1 : (xs.zipIdx.take m)[j]? = some (xs.getD j [], j) := by rw [List.getElem?_take_of_lt hj, zipAt hl]
 exact List.mem_of_getElem? h1
theorem mem_dedupA (xs : List (List Int)) (x : List Int) : x ∈ dedupA xs ↔ x ∈ xs := by
 constructor
 · intro h; obtain ⟨z, hz, rfl⟩ := List.mem_map.1 h; have h1 := List.mem_of_mem_take (List.mem_filter.1 hz).1; have h2 : z.1 ∈ xs.zipIdx.map Prod.fst := List.mem_map.2 ⟨z, h1, rfl⟩; rwa [List.zipIdx_map_fst] at h2
 · intro h; obtain ⟨j, hj, rfl⟩ := List.getElem_of_mem h; have key : ∀ j, j < xs.length → xs.getD j [] ∈ dedupA xs := by
    intro j
    induction j with
    | zero => intro hj; exact mem_dedupZ hj hj (by unfold keepA; exact decide_eq_true (.inl rfl))
    | succ j ih =>
     intro hj; by_cases c : xs.getD (j + 1) [] = xs.getD j []
     · rw [c]; exact ih (by omega)
     · exact mem_dedupZ hj hj (by unfold keepA; exact decide_eq_true (.inr c))
   have := key j hj; rwa [List.getD_eq_getElem?_getD, List.getElem?_eq_getElem hj] at this
theorem dedupA_up {xs : List (List Int)} (hs : xs.Pairwise (fun a b => ¬ cmpL b a < 0)) : UpL (dedupA xs) := by
 have hg : ∀ j, (hj : j < xs.length) → xs.getD j [] = xs[j] := fun j hj => by rw [List.getD_eq_getElem?_getD, List.getElem?_eq_getElem hj]; rfl
 have hle : ∀ i j, i ≤ j → j < xs.length → ¬ cmpL (xs.getD j []) (xs.getD i []) < 0 := fun i j hij hj => by
  by_cases e : i = j
  · subst e; rw [cmpL_self]; omega
  · rw [hg j hj, hg i (by omega)]; exact List.pairwise_iff_getElem.1 hs i j (by omega) hj (by omega)
 have hlt : ∀ i j, i < j → j < xs.length → keepA xs j = true → cmpL (xs.getD i []) (xs.getD j []) < 0 := fun i j hij hj hk => by
  unfold keepA at hk; have hk := of_decide_eq_true hk; have hne : xs.getD j [] ≠ xs.getD (j - 1) [] := hk.elim (fun h => by omega) id; have h1 : cmpL (xs.getD (j - 1) []) (xs.getD j []) < 0 := cmpL_flip (hle (j - 1) j (by omega) hj) hne; by_cases e : xs.getD i [] = xs.getD (j - 1) []
  · rw [e]; exact h1
  · exact cmpL_trans _ _ _ (cmpL_flip (hle i (j - 1) (by omega) (by omega)) (fun h => e h.symm)) h1
 have hp : xs.zipIdx.Pairwise (fun z z' => keepA xs z'.2 = true → cmpL z.1 z'.1 < 0) := by
  rw [List.pairwise_iff_getElem]; intro i j hi hj hij; have hj' : j < xs.length := by simpa using hj
  have := hlt i j hij hj'; rw [hg j hj', hg i (by omega)] at this; simpa using this
 unfold UpL dedupA dedupZ; rw [List.pairwise_map]; refine ((hp.sublist (List.take_sublist _ _)).filter _).imp_of_mem ?_; intro a b _ hb h; exact h (List.mem_filter.1 hb).2
theorem dedup_sort {xs ys : List (List Int)} (hp : xs.Perm ys) (hs : xs.Pairwise (fun a b => ¬ cmpL b a < 0)) : dedupA xs = sortL ys := upL_of (dedupA_up hs) fun x => (mem_dedupA xs x).trans hp.mem_iff
theorem R_head {α : Type} {d : Kd α} {W : World} {base : Nat} {ok : Nat → Prop} {e g n cap : Nat} {xs : List α} (h : d.R e W base ok (.slice (some ⟨g, 0, none⟩) n cap) xs) (m : Nat) (hm : m ≤ xs.length) :
 d.R e W base ok (.slice (some ⟨g, 0, none⟩) m cap) (xs.take m) := by
 obtain ⟨hok, inner, ⟨hlen, hrow⟩, hr1, hr2⟩ := h; rcases hrow with ⟨hv, _⟩ | ⟨g', cap', cur, hv, hbg, hh, hnc, hcm, hcs, ht⟩
 · cases hv
 injection hv with ha0 hn0 hc0; injection ha0 with ha0; injection ha0 with hg0; subst hg0; subst hc0; have hl : (xs.take m).length = m := by rw [List.length_take]; omega
 have hms : m * d.sz ≤ xs.length * d.sz := Nat.mul_le_mul_right _ hm; refine ⟨hok, inner.take (m * d.sz), ⟨by rw [List.length_take, hl, hlen]; exact Nat.min_eq_left hms, .inr ⟨g, cap, cur, by rw [hl], hbg, hh, by rw [hl]; omega, hcm, hcs, by rw [hl, ← ht, List.take_take, Nat.min_eq_left hms]⟩⟩, by rw [List.length_take, hl, hr1]; exact Nat.min_eq_left hms, fun q p hq => ?_⟩; obtain ⟨hq1, _⟩ := List.getElem?_eq_some_iff.1 hq; rw [hl] at hq1; rw [List.getElem?_take, if_pos hq1] at hq; have hx := hr2 q p hq; have hqs : q * d.sz + d.sz ≤ m * d.sz := by rw [← Nat.succ_mul]; exact Nat.mul_le_mul_right _ hq1
 rw [List.drop_take, List.take_take, Nat.min_eq_left (by omega)]; exact hx
theorem R_tail {α : Type} {d : Kd α} {W : World} {base : Nat} {ok : Nat → Prop} {e g n cap : Nat} {xs : List α} (h : d.R e W base ok (.slice (some ⟨g, 0, none⟩) n cap) xs) (o : Nat) (ho : xs.length * d.sz ≤ o) (vs : List Value) (hvs : o + vs.length ≤ cap * d.sz) :
 d.R e (W.setCells g o vs) base ok (.slice (some ⟨g, 0, none⟩) n cap) xs := by
 obtain ⟨hok, inner, ⟨hlen, hrow⟩, hr1, hr2⟩ := h; rcases hrow with ⟨hv, _⟩ | ⟨g', cap', cur, hv, hbg, hh, hnc, hcm, hcs, ht⟩
 · cases hv
 injection hv with ha0 hn0 hc0; injection ha0 with ha0; injection ha0 with hg0; subst hg0; subst hc0; obtain ⟨cur', h3, h4, h5⟩ := setCells_row vs o W cur hh (by omega); refine ⟨hok, inner, ⟨hlen, .inr ⟨g, cap, cur', by rw [← hn0], hbg, h3, hnc, hcm, by rw [h4, hcs], ?_⟩⟩, hr1, fun q p hq => d.M_move (fun k hk => setCells_far vs o k (fun e => hk.2 (by rw [e]; rfl))) (hr2 q p hq)⟩; have hcl : cur.toList.length = cap * d.sz := by rw [← hcs]; rfl
 have h6 : (cur.toList.take o).length = o := by rw [List.length_take, hcl]; omega
 rw [h5, List.take_append_of_le_length (by rw [List.length_append, h6]; omega), List.take_append_of_le_length (by rw [h6]; exact ho), List.take_take, Nat.min_eq_left ho, ht]
theorem S_part {α : Type} {d : Kd α} {f : Nat → Nat} {W : World} {base : Nat} {ok : Nat → Prop} {e : Nat} {v : Value} {zs : List (α × Nat)} (h : (Kd.tag f d).R e W base ok v zs) (hd : (zs.map Prod.snd).Nodup) : Kd.S d e W base ok v (zs.map Prod.fst) := by
 obtain ⟨hok, inner, ho, hr1, hr2⟩ := h; refine ⟨fun b => (zs.map Prod.snd).idxOf (f b), hok, inner, by rw [List.length_zipIdx, List.length_map]; exact ho, by rw [List.length_zipIdx, List.length_map]; exact hr1, fun q p hq => ?_⟩; rw [List.getElem?_zipIdx, Nat.zero_add] at hq; obtain ⟨x, hx, rfl⟩ := Option.map_eq_some_iff.1 hq; rw [List.getElem?_map] at hx; obtain ⟨z, hz, rfl⟩ := Option.map_eq_some_iff.1 hx; refine d.M_mono (fun b hb => ⟨hb.1, ?_⟩) (hr2 q z hz); have h2 : f b = z.2 := hb.2; show (zs.map Prod.snd).idxOf (f b) = q; obtain ⟨hq1, hq2⟩ := List.getElem?_eq_some_iff.1 hz; have h3 : (zs.map Prod.snd)[q]'(by simpa using hq1) = z.2 := by rw [List.getElem_map, hq2]
 rw [h2, ← h3]; exact List.Nodup.idxOf_getElem hd q (by simpa using hq1)
def zc (n : Nat) : List Value := (Builtin.zeroCells #[.int .i64 0, .slice none 0 0] n).toList
theorem take1_of {β : Type} (l : List β) (k : Nat) (a : β) (ha : l[k]? = some a) : (l.drop k).take 1 = [a] := by
 obtain ⟨h1, h2⟩ := List.getElem?_eq_some_iff.1 ha; rw [List.drop_eq_getElem_cons h1, h2]; rfl
theorem take1_ne {β : Type} (l : List β) (q i : Nat) (a : β) (hne : q ≠ i) : ((l.set i a).drop (q * 1)).take 1 = (l.drop (q * 1)).take 1 := by
 apply List.ext_getElem?; intro r; rw [List.getElem?_take, List.getElem?_take]; by_cases hr : r < 1
 · rw [if_pos hr, if_pos hr, List.getElem?_drop, List.getElem?_drop, List.getElem?_set_ne (by omega)]
 · rw [if_neg hr, if_neg hr]
theorem R_one {α : Type} {d : Kd α} (hd : d.sz = 1) {W : World} {base : Nat} {ok : Nat → Prop} {e g n cap : Nat} {xs : List α} (h : d.R e W base ok (.slice (some ⟨g, 0, none⟩) n cap) xs) (j : Nat) (x : α) (hx : xs[j]? = some x) :
 ∃ a, W.cell? ⟨g, j, none⟩ = some a ∧ d.M W base (fun k => ok k ∧ some k ≠ some g) x [a] ∧ W.frozen? ⟨g, j, none⟩ = false ∧ g < W.heap.size := by
 obtain ⟨hok, inner, ⟨hlen, hrow⟩, hr1, hr2⟩ := h; rcases hrow with ⟨hv, _⟩ | ⟨g', cap', cur, hv, hbg, hh, hnc, hcm, hcs, ht⟩
 · cases hv
 injection hv with ha0 hn0 hc0; injection ha0 with ha0; injection ha0 with hg0; subst hg0; subst hc0; rw [hd] at hlen hcs ht hr1 hr2; obtain ⟨hj, _⟩ := List.getElem?_eq_some_iff.1 hx; have h0 : j < inner.length := by omega
 have e0 : cur[j]? = inner[j]? := by
  have := congrArg (fun l => l[j]?) ht; simp only [List.getElem?_take] at this; rw [if_pos (by omega), Array.getElem?_toList] at this; exact this
 refine ⟨inner[j], ?_, ?_, blk_frozen hh _, blk_lt hh⟩
 · rw [blk_cell hh, e0, List.getElem?_eq_getElem]
 · have := hr2 j x hx; rw [Nat.mul_one, take1_of inner j _ (List.getElem?_eq_getElem h0)] at this; exact this
theorem R_copy1 {α : Type} {d : Kd α} (hd : d.sz = 1) {W : World} {base : Nat} {ok : Nat → Prop} {e g n cap : Nat} {xs : List α} (h : d.R e W base ok (.slice (some ⟨g, 0, none⟩) n cap) xs) (i j : Nat) (hi : i < xs.length) (x : α) (hx : xs[j]? = some x)
 {a : Value} (ha : W.cell? ⟨g, j, none⟩ = some a) :
 d.R e (W.setCell ⟨g, i, none⟩ a) base ok (.slice (some ⟨g, 0, none⟩) n cap) (xs.set i x) := by
 obtain ⟨a', ha', hM, _, _⟩ := R_one hd h j x hx; obtain rfl : a = a' := Option.some.inj (ha.symm.trans ha'); clear ha'; obtain ⟨hok, inner, ⟨hlen, hrow⟩, hr1, hr2⟩ := h; rcases hrow with ⟨hv, _⟩ | ⟨g', cap', cur, hv, hbg, hh, hnc, hcm, hcs, ht⟩
 · cases hv
 injection hv with ha0 hn0 hc0; injection ha0 with ha0; injection ha0 with hg0; subst hg0; subst hc0; have hfar : ∀ k, k ≠ g → (W.setCell ⟨g, i, none⟩ a).heap[k]? = W.heap[k]? := fun k hk => Below.heap_setCell W ⟨g, i, none⟩ a k hk
 have hmv : ∀ y cs, d.M W base (fun k => ok k ∧ some k ≠ some g) y cs → d.M (W.setCell ⟨g, i, none⟩ a) base (fun k => ok k ∧ some k ≠ some g) y cs := fun y cs hm => d.M_move (fun k hk => hfar k (fun e => hk.2 (by rw [e]))) hm
 have hb2 := blk_put hh i a rfl; refine ⟨hok, inner.set i a, ⟨by rw [List.length_set, List.length_set]; exact hlen, .inr ⟨g, cap, _, by rw [List.length_set, hn0], hbg, hb2, by rw [List.length_set]; exact hnc, hcm, by simpa using hcs, ?_⟩⟩, by rw [List.length_set, List.length_set]; exact hr1, fun q p hq => ?_⟩
 · rw [List.length_set, Array.toList_setIfInBounds, List.take_set, ht]
 · rw [hd] at hr1 hr2 ⊢; by_cases hqi : q = i
   · subst hqi; rw [List.getElem?_set_self hi] at hq; obtain rfl := Option.some.inj hq; rw [Nat.mul_one, take1_of _ q a (by rw [List.getElem?_set_self (by omega)])]; exact hmv _ _ hM
   · rw [List.getElem?_set_ne (fun e => hqi e.symm)] at hq; rw [take1_ne _ _ _ _ hqi]; exact hmv _ _ (hr2 q p hq)
def zc1 (n : Nat) : List Value := (Builtin.zeroCells #[.slice none 0 0] n).toList
theorem zc1_len (n : Nat) : (zc1 n).length = n := by simp [zc1, Builtin.zeroCells]
theorem clear_one {P : Program} (w : World) (t e : TypeId) (b o n c : Nat) (ht : P.underlying t = some (.slice e)) (hv : ∀ w, (zeroValue e).run P w = .ok (.slice none 0 0) w) (hn : 0 < n)
 (hc : ∀ j, j < n → (w.cell? ⟨b, o + j, none⟩).isSome = true) (hf : ∀ j, j < n → w.frozen? ⟨b, o + j, none⟩ = false) :
 ∀ ty, (Builtin.clear_ #[t] ty #[.slice (some ⟨b, o, none⟩) n c]).run P w = .ok (.tuple #[]) (w.setCells b o (zc1 n)) := by
 intro ty; have hone : ∀ v ∈ zc1 n, v.oneCell' = true := fun v hv' => by
  simp only [zc1, Builtin.zeroCells, Array.toList_map, List.mem_map] at hv'; obtain ⟨i, _, rfl⟩ := hv'; have h2 : (#[(.slice none 0 0 : Value)]).size = 1 := rfl; rw [h2, Nat.mod_one]; rfl
 have hst := run_storeCells_cells (P := P) b o (zc1 n) 0 w (by rw [zc1_len]; simpa using hc) (by rw [zc1_len]; simpa using hf) hone; simp only [Nat.add_zero] at hst; obtain ⟨m, rfl⟩ : ∃ m, n = m + 1 := ⟨n - 1, by omega⟩
 have hcl : (Value.slice none 0 0).cells = #[.slice none 0 0] := by simp [Value.cells]
 simp only [zc1] at hst; simp [Builtin.clear_, run_underlying ht, hv, hcl, hst, zc1]
theorem R_split {α : Type} {d : Kd α} (hd : d.sz = 1) {W : World} {base : Nat} {ok : Nat → Prop} {e : Nat} {v : Value} {xs : List α} (h : d.R e W base ok v xs) :
 (v = .slice none 0 0 ∧ xs = []) ∨ ∃ (g cap : Nat) (cur : Array Value), v = .slice (some ⟨g, 0, none⟩) xs.length cap ∧ ok g ∧ base ≤ g ∧ W.heap[g]? = some (.cells cur e (0, 0)) ∧ xs.length ≤ cap ∧ cap ≤ maxLen ∧ cur.size = cap ∧
  ∀ (j : Nat) (x : α), xs[j]? = some x → ∃ a, cur[j]? = some a ∧ d.M W base (fun k => ok k ∧ k ≠ g) x [a] := by
 have h' := h; obtain ⟨hok, inner, ⟨hlen, hrow⟩, hr1, hr2⟩ := h; rcases hrow with ⟨hv, h0⟩ | ⟨g, cap, cur, hv, hbg, hh, hnc, hcm, hcs, ht⟩
 · exact .inl ⟨hv, List.length_eq_zero_iff.1 h0⟩
 · subst hv; refine .inr ⟨g, cap, cur, rfl, hok g rfl, hbg, hh, hnc, hcm, by rw [hcs, hd, Nat.mul_one], fun j x hx => ?_⟩; obtain ⟨a, h1, h2, _, _⟩ := R_one hd h' j x hx; rw [blk_cell hh] at h1; exact ⟨a, h1, d.M_mono (fun k hk => ⟨hk.1, fun e => hk.2 (by rw [e])⟩) h2⟩
theorem R_join {α : Type} {d : Kd α} (hd : d.sz = 1) {W : World} {base g cap : Nat} {ok : Nat → Prop} {e : Nat} {xs : List α} {cur : Array Value} (hok : ok g) (hb : base ≤ g) (hh : W.heap[g]? = some (.cells cur e (0, 0))) (hn : xs.length ≤ cap) (hc : cap ≤ maxLen) (hs : cur.size = cap)
 (hm : ∀ (j : Nat) (x : α), xs[j]? = some x → ∃ a, cur[j]? = some a ∧ d.M W base (fun k => ok k ∧ k ≠ g) x [a]) : d.R e W base ok (.slice (some ⟨g, 0, none⟩) xs.length cap) xs := by
 have e0 : cur.toList.length = cap := by rw [← hs]; rfl
 have hl : (cur.toList.take xs.length).length = xs.length := by rw [List.length_take, e0]; omega
 refine ⟨fun k hk => by have : g = k := by simpa [Value.ownBlock] using hk
                        rw [← this]; exact hok, cur.toList.take xs.length, ⟨by rw [hl, hd, Nat.mul_one], .inr ⟨g, cap, cur, rfl, hb, hh, hn, hc, by rw [hs, hd, Nat.mul_one], by rw [hd, Nat.mul_one]⟩⟩, by rw [hl, hd, Nat.mul_one], fun j x hx => ?_⟩
 obtain ⟨a, h1, h2⟩ := hm j x hx; obtain ⟨hj, _⟩ := List.getElem?_eq_some_iff.1 hx; rw [hd, Nat.mul_one, take1_of _ j a (by rw [List.getElem?_take_of_lt hj, Array.getElem?_toList]; exact h1)]; refine d.M_mono (fun k hk => ⟨hk.1, fun e => hk.2 ?_⟩) h2; have : some k = some g := by simpa [Value.ownBlock] using e
 injection this
end Go.Proofs.Ytkocahlifffgjaa.P
namespace Go.Proofs.Ytkocahlifffgjaa.P
open Go.RowKit Go.Proofs.YtkocahlifffgjaaW.PrintWords Go.Proofs.YtkocahlifffgjaaW.PrintLast Go.Proofs.YtkocahlifffgjaaW.PrintMore
set_option linter.unusedVariables false
set_option linter.unusedSimpArgs false
structure RowV (f : Nat → Nat) (W : World) (base : Nat) (ok : Nat → Prop) where
 v : Value
 z : List Int × Nat
 m : (Kd.tag f (Kd.slice 3 (Kd.int .i64))).M W base ok z [v]
theorem rowV_none (f : Nat → Nat) (W : World) (base : Nat) (ok : Nat → Prop) : (Kd.tag f (Kd.slice 3 (Kd.int .i64))).M W base ok ([], 0) [.slice none 0 0] := ⟨.slice none 0 0, rfl, Kd.R_nil _ _ _ _ _⟩
instance (f : Nat → Nat) (W : World) (base : Nat) (ok : Nat → Prop) : Inhabited (RowV f W base ok) := ⟨⟨.slice none 0 0, ([], 0), rowV_none f W base ok⟩⟩
theorem RowV.cell {f : Nat → Nat} {W : World} {base : Nat} {ok : Nat → Prop} (x : RowV f W base ok) : (x.v).oneCell' = true := by
 obtain ⟨v, z, v', hv, hR⟩ := x; injection hv with hv; subst hv; obtain ⟨A, c, rfl⟩ := Kd.R_slice hR; rfl
section
variable {α : Type} [Inhabited α]
theorem heap_sortW (enc : α → Value) {w : World} {g n : Nat} {os : Array Obj} {cur : Array Value} {e : TypeId} {fr : Nat × Nat} (d : Array α) (hb : w.heap[g]? = some (.cells cur e fr)) :
 (Go.Sort.grow (Go.Sort.putRow enc (Go.Sort.ahead w n) g 0 d) os).heap[g]? = some (.cells (Go.Sort.putCells enc 0 d cur) e fr) := by
 have hg : g < w.heap.size := (Array.getElem?_eq_some_iff.1 hb).1; rw [Go.Sort.heap_grow_old _ _ (by simpa using hg)]; simp [Go.Sort.putRow, Go.Sort.mapBlock, Go.Sort.ahead, Array.getElem?_modify, hb, Go.Sort.onCells]
theorem grownBy_sortW (enc : α → Value) {w : World} {g n : Nat} {os : Array Obj} (d : Array α) : w.grownBy (Go.Sort.grow (Go.Sort.putRow enc (Go.Sort.ahead w n) g 0 d) os) (some g) := by
 refine ⟨rfl, rfl, rfl, by simp, fun k hk hne => ?_⟩; rw [Go.Sort.heap_grow_old _ _ (by simpa using hk)]; have : g ≠ k := fun e => hne (by rw [e])
 simp [Go.Sort.putRow, Go.Sort.mapBlock, Go.Sort.ahead, Array.getElem?_modify, this]
theorem get_putCells (enc : α → Value) (cur : Array Value) (d : Array α) (j : Nat) (x : α) (hj : d[j]? = some x) (hc : d.size ≤ cur.size) : (Go.Sort.putCells enc 0 d cur)[j]? = some (enc x) := by
 obtain ⟨h1, h2⟩ := Array.getElem?_eq_some_iff.1 hj; have h3 : d[j]! = x := by rw [getElem!_pos d j h1, h2]
 have h4 : j < cur.size := by omega
 unfold Go.Sort.putCells; rw [Array.getElem?_mapIdx, Array.getElem?_eq_getElem h4, Option.map_some, if_pos ⟨Nat.zero_le _, by omega⟩, Nat.sub_zero, h3]
end
theorem RowV.reads {f : Nat → Nat} {W V : World} {base g : Nat} {ok : Nat → Prop} (x : RowV f W base (fun k => ok k ∧ k ≠ g)) (hV : W.grownBy V (some g)) :
 ∃ A c, x.v = .slice A x.z.1.length c ∧ x.z.1.length ≤ c ∧ Kd.C (Kd.int .i64) V A x.z.1.length x.z.1 := by
 have h := Kd.M_grown (d := Kd.tag f (Kd.slice 3 (Kd.int .i64))) x.m hV (fun k hk e => hk.2 (Option.some.inj e)); obtain ⟨v', hv, hR⟩ := h; injection hv with hv; obtain ⟨A, c, h1, h2, h3⟩ := Kd.R_reads hR; exact ⟨A, c, hv.trans h1, h2, h3⟩
theorem cmpL_swo {α : Type} (p : α → List Int) : Go.Sort.SWO (ltOf fun x y : α => cmpL (p x) (p y)) where
 irrefl x := by unfold ltOf; show decide (cmpL (p x) (p x) < 0) = false; rw [cmpL_self]; rfl
 trans x y z h1 h2 := by unfold ltOf at *; simp only [decide_eq_true_eq] at *; exact cmpL_trans _ _ _ h1 h2
 ntrans x y z h1 h2 := by
  unfold ltOf at *
  simp only [decide_eq_false_iff_not] at *
  intro h3; by_cases e : p y = p x
  · rw [← e] at h3; exact h2 h3
  · have h4 : cmpL (p y) (p x) < 0 := cmpL_flip h1 (fun e' => e e'.symm); exact h2 (cmpL_trans _ _ _ h4 h3)
theorem sortRows_calls (f : Nat → Nat) (base : Nat) (ok : Nat → Prop) (v : Value) (zs : List (List Int × Nat)) (w : World) (hR : (Kd.tag f (Kd.slice 3 (Kd.int .i64))).R 23 w base ok v zs) (hl : zs.length < 4611686018427387904) :
 Calls Try.prog 95 #[v, .func (.func 94) #[] #[]] w fun e w' => e = .returned (.tuple #[]) ∧ ∃ zs', zs'.Perm zs ∧ zs'.Pairwise (fun a b => ¬ cmpL b.1 a.1 < 0) ∧ (Kd.tag f (Kd.slice 3 (Kd.int .i64))).R 23 w' base ok v zs' ∧ w.grownBy w' v.ownBlock := by
 rcases R_split rfl hR with ⟨rfl, rfl⟩ | ⟨g, cap, cur, rfl, hok, hbg, hh, hnc, hcm, hcs, hm⟩
 · refine (AnyF.slices_SortFunc_none { Try.srtf with } none 0 _ w).mono fun e w' ⟨he, hw⟩ => ?_
   subst hw; exact ⟨he, [], .nil, .nil, Kd.R_nil _ _ _ _ _, ⟨rfl, rfl, rfl, Nat.le_refl _, fun _ _ _ => rfl⟩⟩
 · have hg : g < w.heap.size := blk_lt hh; have hrow : (Value.slice (some (⟨g, 0, none⟩ : Addr)) zs.length cap).ownBlock = some g := rfl; have pick : ∀ j, (hj : j < zs.length) → ∃ y : RowV f w base (fun k => ok k ∧ k ≠ g), cur[j]? = some y.v ∧ y.z = zs[j] := fun j hj => by
    obtain ⟨a, h1, h2⟩ := hm j zs[j] (List.getElem?_eq_getElem hj); exact ⟨⟨a, zs[j], h2⟩, h1, rfl⟩
   obtain ⟨d, hd0, hd1⟩ : ∃ d : Array (RowV f w base (fun k => ok k ∧ k ≠ g)), d.size = zs.length ∧ ∀ j, (hj : j < d.size) → ∃ hz : j < zs.length, cur[j]? = some (d[j]).v ∧ (d[j]).z = zs[j] := by
    refine ⟨Array.ofFn fun i : Fin zs.length => Classical.choose (pick i.val i.isLt), by simp, fun j hj => ?_⟩; have hz : j < zs.length := by simpa using hj
    refine ⟨hz, ?_⟩; rw [Array.getElem_ofFn]; exact Classical.choose_spec (pick j hz)
   have eg : ∀ args w, (callFunc 94 args).run Try.prog w = .ok (.enter 94 args) w := enters_of Try.func94 (by kernel_rfl) rfl; have hH : Go.Sort.Holds (fun x : RowV f w base (fun k => ok k ∧ k ≠ g) => x.v) w g 0 d := fun j hj => by
    obtain ⟨_, h1, _⟩ := hd1 j hj; rw [Nat.zero_add, getElem!_pos d j hj]; exact ⟨(blk_cell hh j).trans h1, blk_frozen hh j⟩
   have hcmp : CmpLays1 Try.prog 94 #[] (fun x : RowV f w base (fun k => ok k ∧ k ≠ g) => x.v) (fun x y => cmpL x.z.1 y.z.1) g 0 d.size w := fun m os dk hdk x y => by
    obtain ⟨A1, c1, e1, l1, r1⟩ := x.reads (V := sortWorld (fun x : RowV f w base (fun k => ok k ∧ k ≠ g) => x.v) w g 0 m dk os) (grownBy_sortW _ dk); obtain ⟨A2, c2, e2, l2, r2⟩ := y.reads (V := sortWorld (fun x : RowV f w base (fun k => ok k ∧ k ≠ g) => x.v) w g 0 m dk os) (grownBy_sortW _ dk); have hb := r1.2.1; show Calls Try.prog 94 #[x.v, y.v] _ _; rw [e1, e2]; refine (slices_Compare_int_int.calls (x.z.1.length + 1) A1 c1 x.z.1 A2 c2 y.z.1 _ _ r1 l1 r2 l2 (compare_eq x.z.1 y.z.1 hb _ (Nat.lt_succ_self _))).mono fun e w' ⟨he, q, hq⟩ => ⟨he, q, #[], by rw [Go.Sort.grow_empty]; exact hq⟩
   have S := Any.slices_SortFunc Try.srtf (fun x : RowV f w base (fun k => ok k ∧ k ≠ g) => x.v) (fun x => x.cell) (fun x y => cmpL x.z.1 y.z.1) (cmpL_swo fun x : RowV f w base (fun k => ok k ∧ k ≠ g) => x.z.1) 94 #[] g 0 cap d w eg hcmp hH hg (by rw [hd0]; exact hl); rw [hd0] at S; refine S.mono fun e w' ⟨he, d', n, os, ⟨hp1, _, hp3⟩, hs, hw⟩ => ⟨he, d'.toList.map fun y => y.z, ?_, ?_, ?_, ?_⟩
   · rw [← hd0] at hp3; rw [show d'.extract 0 d.size = d' by rw [← hp1]; exact Array.extract_size, Array.extract_size] at hp3; have h4 : d.toList.map (fun y => y.z) = zs := by
      apply List.ext_getElem
      · simp [hd0]
      · intro j h1 h2; obtain ⟨_, _, h5⟩ := hd1 j (by rw [hd0]; exact h2); simp [h5]
     rw [← h4]; exact hp3.map _
   · rw [List.pairwise_map, List.pairwise_iff_getElem]; intro i j hi hj hij; have hi' : i < d'.size := by simpa using hi
     have hj' : j < d'.size := by simpa using hj
     have h5 := hs i j (Nat.zero_le _) hij (by rw [← hd0, ← hp1]; exact hj'); rw [getElem!_pos d' j hj', getElem!_pos d' i hi'] at h5; have h6 := of_decide_eq_false h5; simpa using h6
   · subst hw; have hh2 := heap_sortW (fun x : RowV f w base (fun k => ok k ∧ k ≠ g) => x.v) (n := n) (os := os) d' hh; have hsz : d'.size = zs.length := hp1.trans hd0; have hlen : (d'.toList.map fun y => y.z).length = zs.length := by simp [hsz]
     have J := R_join (d := Kd.tag f (Kd.slice 3 (Kd.int .i64))) (W := sortWorld (fun x : RowV f w base (fun k => ok k ∧ k ≠ g) => x.v) w g 0 n d' os) (xs := d'.toList.map fun y => y.z) (ok := ok) (base := base) (cap := cap) (g := g) (e := 23) rfl hok hbg hh2 (by rw [hlen]; exact hnc) hcm (by simp [Go.Sort.putCells, hcs]) (fun j x hx => by
      rw [List.getElem?_map] at hx; obtain ⟨y, hy, rfl⟩ := Option.map_eq_some_iff.1 hx; rw [Array.getElem?_toList] at hy; exact ⟨y.v, get_putCells _ cur d' j y hy (by rw [hsz, hcs]; exact hnc), Kd.M_grown y.m (grownBy_sortW _ d') (fun k hk e => hk.2 (Option.some.inj e))⟩)
     rw [hlen] at J; exact J
   · subst hw; exact grownBy_sortW _ d'
structure Later (w : World) where
 v : World
 below : Below w.heap.size w v
instance (w : World) : Inhabited (Later w) := ⟨⟨w, Below.refl _ w⟩⟩
theorem wp_region_later {P : Program} {id : Nat} {Q : Exit → Act → World → Prop} {a : Act} {w : World} {l : List Oper} (hm : P.follows .mixedOrders = true) (hB : Region.lexB .any l.toArray = true)
 (h : wpQuiet P l.toArray (fun w' => ∃ p : Later w, w' = p.v) (fun a' => ∀ w', (∃ p : Later w, w' = p.v) → Q .normal a' w') l a) : (Code.region id l.toArray true).wp P Q a w :=
 wp_region_quiet (C := fun w' => ∃ p : Later w, w' = p.v) hm hB ⟨⟨w.drew, (Below.refl _ w).drew⟩, rfl⟩ (by simpa using h)
theorem Later.call {P : Program} {f : FuncId} {args : Array Value} {w : World} {p : Later w} {v : Value}
 (h : Calls P f args p.v fun e w' => e = .returned v ∧ Below p.v.heap.size p.v w') : Calls P f args p.v fun e w'' => e = .returned v ∧ ∃ p' : Later w, w'' = p'.v :=
 h.mono fun e w' ⟨he, hb⟩ => ⟨he, ⟨w', p.below.trans (hb.mono p.below.size)⟩, rfl⟩
theorem Later.callD {P : Program} {f : FuncId} {args : Array Value} {w : World} {p : Later w} {v : Value}
 (h : Calls P f args p.v fun e w' => e = .returned v ∧ Drawn0 p.v w') : Calls P f args p.v fun e w'' => e = .returned v ∧ ∃ p' : Later w, w'' = p'.v :=
 Later.call (h.mono fun e w' ⟨he, n, hn⟩ => ⟨he, by subst hn; exact pw_below_drewN (Below.refl _ _) n⟩)
theorem Later.cell {w : World} {a : Addr} {v : Value} (h : w.cell? a = some v) (p : Later w) : p.v.cell? a = some v := (p.below.cell (World.block_lt_of_cell? w _ h)).trans h
end Go.Proofs.Ytkocahlifffgjaa.P
namespace Go.Proofs.Ytkocahlifffgjaa.P
open Go.RowKit Go.Proofs.YtkocahlifffgjaaW.PrintWords Go.Proofs.YtkocahlifffgjaaW.PrintLast Go.Proofs.YtkocahlifffgjaaW.PrintMore
attribute [local go_sem] max2_int min2_int max_two min_two max_three min_three max_four min_four
set_option linter.unusedVariables false
set_option linter.unusedSimpArgs false
def slices_Equal_int_int.l0 : Nat → List Int → List Int → Int → Int → Option (Bool)
 | 0, _, _, _, _ => none
 | k + 1, x0, x1, x12, x13 => if x13 < x12 then (if 0 ≤ x13 then (if x13 < (x0.length : Int) then (if x13 < (x1.length : Int) then (if (rd x0 x13) = (rd x1 x13) then (slices_Equal_int_int.l0 k x0 x1 x12 (wrap64 (x13 + 1))) else (some false)) else (none)) else (none)) else (none)) else (some true)
def slices_Equal_int_int.f (k : Nat) (l0 : List Int) (l1 : List Int) : Option (Bool) := if (l0.length : Int) = (l1.length : Int) then (slices_Equal_int_int.l0 k l0 l1 (l0.length : Int) 0) else (some false)
set_option maxHeartbeats 8000000 in
set_option maxRecDepth 100000 in
theorem slices_Equal_int_int.calls (k : Nat) (A0 : Option Addr) (c0 : Nat) (l0 : List Int) (A1 : Option Addr) (c1 : Nat) (l1 : List Int) (r : Bool) (w : World) (hr0 : Kd.C (Kd.int .i64) w A0 l0.length l0) (hc0 : l0.length ≤ c0) (hr1 : Kd.C (Kd.int .i64) w A1 l1.length l1) (hc1 : l1.length ≤ c1) (h : slices_Equal_int_int.f k l0 l1 = some r) :
 Calls Try.prog 97 #[.slice A0 l0.length c0, .slice A1 l1.length c1] w fun e w' => e = .returned (.bool r) ∧ Drawn0 w w' := by
 have HR0 := Aside0.mk hr0; have HC0 := Aside0.mk hc0; clear hr0 hc0; have HR1 := Aside0.mk hr1; have HC1 := Aside0.mk hc1; clear hr1 hc1; have H : (if (l0.length : Int) = (l1.length : Int) then (slices_Equal_int_int.l0 k l0 l1 (l0.length : Int) 0) else (some false)) = some r := h; clear h; by_cases c3 : (l0.length : Int) = (l1.length : Int)
 · rw [if_pos c3] at H; have c3b0 : ((l0.length : Int) == (l1.length : Int)) = true := beq_iff_eq.mpr c3; have c3b1 : ((l0.length : Int) != (l1.length : Int)) = false := bne_eq_false_iff_eq.mpr c3; have c3b2 : (l0.length == l1.length) = true := by first | simpa using c3 | (simp at c3 ⊢; omega)
   clear c3; have H' := Aside0.mk H; clear H; go_enter Try.func97, Try.ntmps97; go_wp2; (repeat (go_quiet (fail); try go_wp2)); go_loopg [13] k (fun kq v13 w' => ∃ (x13_1 : Int), v13 = .int .i64 x13_1 ∧ Aside0 (slices_Equal_int_int.l0 kq l0 l1 (l0.length : Int) x13_1 = some r) ∧ Aside0 (kq ≤ k) ∧ Drawn0 w w')
   case atStart => exact ⟨(0), (by first | rfl | (simp; done) | (simp [*]; done)), H', ⟨Nat.le_refl _⟩, by repeat (first | exact Drawn0.refl _ | apply Drawn0.step)⟩
   case round =>
    clear H'; (try clear c1); (try clear p2); (try clear c3); (try clear c3b0); (try clear c3b1); (try clear c3b2); obtain ⟨x13_1, rfl, HA, HK1, ⟨m1, rfl⟩⟩ := hrel; cases gk with
    | zero => exact absurd HA.out (by simp [slices_Equal_int_int.l0])
    | succ k1 =>
     have H := HA.out; clear HA; simp only [slices_Equal_int_int.l0] at H; by_cases c4 : x13_1 < (l0.length : Int)
     · rw [if_pos c4] at H; have c4b0 : decide (x13_1 < (l0.length : Int)) = true := decide_eq_true c4; clear c4; by_cases c5 : 0 ≤ x13_1
       · rw [if_pos c5] at H; have c5b0 : decide (0 ≤ x13_1) = true := decide_eq_true c5; clear c5; by_cases c6 : x13_1 < (l0.length : Int)
         · rw [if_pos c6] at H; have c6b0 : decide (x13_1 < (l0.length : Int)) = true := decide_eq_true c6; clear c6; by_cases c7 : x13_1 < (l1.length : Int)
           · rw [if_pos c7] at H; have c7b0 : decide (x13_1 < (l1.length : Int)) = true := decide_eq_true c7; clear c7; by_cases c8 : (rd l0 x13_1) = (rd l1 x13_1)
             · rw [if_pos c8] at H; have c8b0 : ((rd l0 x13_1) == (rd l1 x13_1)) = true := beq_iff_eq.mpr c8; have c8b1 : ((rd l0 x13_1) != (rd l1 x13_1)) = false := bne_eq_false_iff_eq.mpr c8; clear c8; have H' := Aside0.mk H; clear H; have p101 : 0 ≤ (x13_1 : Int) := of_decide_eq_true (by assumption); have q101 : x13_1 < (l0.length : Int) := of_decide_eq_true (by assumption); obtain ⟨ad101, e101, hx101_0⟩ := Kd.at_int HR0.out x13_1 p101 q101; cases e101; replace p101 := eq_true p101; replace q101 := eq_true q101; have p102 : 0 ≤ (x13_1 : Int) := of_decide_eq_true (by assumption); have q102 : x13_1 < (l1.length : Int) := of_decide_eq_true (by assumption); obtain ⟨ad102, e102, hx102_0⟩ := Kd.at_int HR1.out x13_1 p102 q102; cases e102; replace p102 := eq_true p102; replace q102 := eq_true q102; go_wp2; repeat (go_quiet (fail); try go_wp2)
               go_roundg k1
               case measure => have := HK1.out; omega
               case rel => exact ⟨(wrap64 (x13_1 + 1)), (by first | rfl | (simp; done) | (simp [*]; done)), H', ⟨by have := HK1.out; omega⟩, by repeat (first | exact Drawn0.refl _ | apply Drawn0.step)⟩
             · rw [if_neg c8] at H; have c8b0 : ((rd l0 x13_1) == (rd l1 x13_1)) = false := beq_eq_false_iff_ne.mpr c8; have c8b1 : ((rd l0 x13_1) != (rd l1 x13_1)) = true := bne_iff_ne.mpr c8; obtain rfl := Option.some.inj H; have p101 : 0 ≤ (x13_1 : Int) := of_decide_eq_true (by assumption); have q101 : x13_1 < (l0.length : Int) := of_decide_eq_true (by assumption); obtain ⟨ad101, e101, hx101_0⟩ := Kd.at_int HR0.out x13_1 p101 q101; cases e101; replace p101 := eq_true p101; replace q101 := eq_true q101; have p102 : 0 ≤ (x13_1 : Int) := of_decide_eq_true (by assumption); have q102 : x13_1 < (l1.length : Int) := of_decide_eq_true (by assumption); obtain ⟨ad102, e102, hx102_0⟩ := Kd.at_int HR1.out x13_1 p102 q102; cases e102; replace p102 := eq_true p102; replace q102 := eq_true q102; go_wp2; (repeat (go_quiet (fail); try go_wp2)); go_ret; exact ⟨by first | rfl | (simp; done) | (simp [*]; done), by repeat (first | exact Drawn0.refl _ | apply Drawn0.step)⟩
           · rw [if_neg c7] at H; exact absurd H (by simp)
         · rw [if_neg c6] at H; exact absurd H (by simp)
       · rw [if_neg c5] at H; exact absurd H (by simp)
     · rw [if_neg c4] at H; have c4b0 : decide (x13_1 < (l0.length : Int)) = false := decide_eq_false c4; clear c4; obtain rfl := Option.some.inj H; go_wp2; (repeat (go_quiet (fail); try go_wp2)); go_ret; exact ⟨by first | rfl | (simp; done) | (simp [*]; done), by repeat (first | exact Drawn0.refl _ | apply Drawn0.step)⟩
 · rw [if_neg c3] at H; have c3b0 : ((l0.length : Int) == (l1.length : Int)) = false := beq_eq_false_iff_ne.mpr c3; have c3b1 : ((l0.length : Int) != (l1.length : Int)) = true := bne_iff_ne.mpr c3; have c3b2 : (l0.length == l1.length) = false := by first | simpa using c3 | (simp at c3 ⊢; omega)
   obtain rfl := Option.some.inj H; go_enter Try.func97, Try.ntmps97; go_wp2; (repeat (go_quiet (fail); try go_wp2)); go_ret; exact ⟨by first | rfl | (simp; done) | (simp [*]; done), by repeat (first | exact Drawn0.refl _ | apply Drawn0.step)⟩
end Go.Proofs.Ytkocahlifffgjaa.P
