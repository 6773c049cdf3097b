/- Proved: for all arguments GrammarText of the program returns what GrammarText of the reference returns; it leaves its arguments as they were, and shares no memory. No condition. -/
import Derived.Test.YtpcbjhfgfmmneaaDoorQFnExactGrammarTextCardp1
import Derived.Test.YtpcbjhfgfmmneaaDoorQFnExactGrammarTextCardp2
import Derived.Test.YtpcbjhfgfmmneaaDoorWWords
import Derived.DataReads
import Derived.Deep.Slices
import Derived.Test.YtpcbjhfgfmmneaaDoorK0
import Derived.OpenShut
import Derived.Test.YtpcbjhfgfmmneaaDoorRows
import Derived.Test.YtpcbjhfgfmmneaaDoorQFnExactGrammarTextCardp0
import Derived.SevenTiedAt
import Derived.LaidMore
import Derived.WalkKit
import Derived.ProofKit
import Derived.ShutString
import Derived.ChangeOld
import Derived.Below
import Derived.SizedLaws
/-! ZFnExactGrammarText -/
/- The law of GrammarText answers true at whatever grammar. -/
namespace Go.Proofs.YtpcbjhfgfmmneaaDoor.P
open Go.RowKit Go.Proofs.YtpcbjhfgfmmneaaDoorW.PrintWords
set_option linter.unusedVariables false
set_option linter.unusedSimpArgs false
theorem letter_same (a : Int) (h1 : -4 ≤ a) (h2 : a ≤ 5) : ∃ b : ByteArray, b.size = 1 ∧ spec_l2Letter.f a = some b ∧ impl_letterOf.f a = some b := by
  have : a = -4 ∨ a = -3 ∨ a = -2 ∨ a = -1 ∨ a = 0 ∨ a = 1 ∨ a = 2 ∨ a = 3 ∨ a = 4 ∨ a = 5 := by omega
  rcases this with rfl | rfl | rfl | rfl | rfl | rfl | rfl | rfl | rfl | rfl
  · exact ⟨⟨#[100]⟩, by kernel_rfl, by kernel_rfl, by kernel_rfl⟩
  · exact ⟨⟨#[99]⟩, by kernel_rfl, by kernel_rfl, by kernel_rfl⟩
  · exact ⟨⟨#[98]⟩, by kernel_rfl, by kernel_rfl, by kernel_rfl⟩
  · exact ⟨⟨#[97]⟩, by kernel_rfl, by kernel_rfl, by kernel_rfl⟩
  · exact ⟨⟨#[83]⟩, by kernel_rfl, by kernel_rfl, by kernel_rfl⟩
  · exact ⟨⟨#[65]⟩, by kernel_rfl, by kernel_rfl, by kernel_rfl⟩
  · exact ⟨⟨#[66]⟩, by kernel_rfl, by kernel_rfl, by kernel_rfl⟩
  · exact ⟨⟨#[67]⟩, by kernel_rfl, by kernel_rfl, by kernel_rfl⟩
  · exact ⟨⟨#[68]⟩, by kernel_rfl, by kernel_rfl, by kernel_rfl⟩
  · exact ⟨⟨#[69]⟩, by kernel_rfl, by kernel_rfl, by kernel_rfl⟩
theorem digit_same (a : Int) (h1 : 1 ≤ a) (h2 : a ≤ 6) : ∃ b : ByteArray, b.size = 1 ∧ (∀ k, spec_l1Num.f (k + 1) a = some b) ∧ strconv_Itoa_28.f a = some b := by
  have : a = 1 ∨ a = 2 ∨ a = 3 ∨ a = 4 ∨ a = 5 ∨ a = 6 := by omega
  rcases this with rfl | rfl | rfl | rfl | rfl | rfl
  · exact ⟨⟨#[49]⟩, by kernel_rfl, fun k => by simp only [spec_l1Num.f]; rw [if_pos (by decide)]; kernel_rfl, by kernel_rfl⟩
  · exact ⟨⟨#[50]⟩, by kernel_rfl, fun k => by simp only [spec_l1Num.f]; rw [if_pos (by decide)]; kernel_rfl, by kernel_rfl⟩
  · exact ⟨⟨#[51]⟩, by kernel_rfl, fun k => by simp only [spec_l1Num.f]; rw [if_pos (by decide)]; kernel_rfl, by kernel_rfl⟩
  · exact ⟨⟨#[52]⟩, by kernel_rfl, fun k => by simp only [spec_l1Num.f]; rw [if_pos (by decide)]; kernel_rfl, by kernel_rfl⟩
  · exact ⟨⟨#[53]⟩, by kernel_rfl, fun k => by simp only [spec_l1Num.f]; rw [if_pos (by decide)]; kernel_rfl, by kernel_rfl⟩
  · exact ⟨⟨#[54]⟩, by kernel_rfl, fun k => by simp only [spec_l1Num.f]; rw [if_pos (by decide)]; kernel_rfl, by kernel_rfl⟩
/-- What letters are asked of. -/
def okT6 (x : S44) : Prop := (0 ≤ x.f0 ∧ x.f0 ≤ 5) ∧ x.f1.length ≤ 4 ∧ ∀ j : Nat, j < x.f1.length → -4 ≤ rd x.f1 j ∧ rd x.f1 j ≤ 5
theorem goodG_okT6 {n t : Int} {l : List S44} (h : goodG n t l = true) : (1 ≤ n ∧ n ≤ 6) ∧ (1 ≤ t ∧ t ≤ 4) ∧ l.length ≤ 16 ∧ ∀ j : Nat, j < l.length → okT6 (rd_T44 l j) := by
  unfold goodG at h
  simp only [Bool.and_eq_true, decide_eq_true_eq] at h
  refine ⟨h.1, h.2.1, h.2.2.1, fun j hj => ?_⟩
  have hn := h.1
  have ht := h.2.1
  have h := h.2.2.2
  have hw : wrap64 (n - 1) = n - 1 := by unfold wrap64; omega
  have hv : wrap64 (-t) = -t := by unfold wrap64; omega
  have q : okR n t (rd_T44 l j) = true := by
    cases q : okR n t (rd_T44 l j) with
    | true => rfl
    | false => rw [rulesB_no n t l j l.length hj (.inl q)] at h; cases h
  unfold okR at q
  simp only [Bool.and_eq_true, decide_eq_true_eq, Bool.not_eq_true', List.any_eq_false] at q
  obtain ⟨⟨h2, h3⟩, h4⟩ := q
  rw [hw] at h2
  refine ⟨⟨h2.1, by omega⟩, h3, fun i hi => ?_⟩
  have := h4 (rd (rd_T44 l j).f1 i) (by unfold rd; rw [List.getD_eq_getElem?_getD, Int.toNat_natCast, List.getElem?_eq_getElem hi]; exact List.getElem_mem hi)
  unfold symB at this
  rw [hw, hv] at this
  simp at this
  omega
theorem text_inner (l : List S44) (n i : Int) (x : S44) (hx : okT6 x) (B : Nat) (hB : B ≤ 1000) (next : ∀ a : ByteArray, a.size ≤ B + 5 → ∃ r, ∃ K : Nat, ∀ k, K ≤ k → spec_l2Text.l0 k a l n (wrap64 (i + 1)) = some r ∧ impl_grammarText.l0 k a l n (wrap64 (i + 1)) = some r) (d : Nat) :
    ∀ (j : Nat) (a : ByteArray), j ≤ x.f1.length → x.f1.length - j = d → a.size ≤ B + j → ∃ r, ∃ K : Nat, ∀ k, K ≤ k → spec_l2Text.l1 k a l n i x.f1 x.f1.length j = some r ∧ impl_grammarText.l1 k a l n i x.f1 x.f1.length j = some r := by
  induction d with
  | zero =>
    intro j a hj hd ha
    have h4 := hx.2.1
    obtain ⟨r, K, h⟩ := next (a ++ (⟨#[10]⟩ : ByteArray)) (by rw [ByteArray.size_append, show (⟨#[10]⟩ : ByteArray).size = 1 from rfl]; omega)
    refine ⟨r, K + 1, fun k hk => ?_⟩
    obtain ⟨k, rfl⟩ : ∃ m, k = m + 1 := ⟨k - 1, by omega⟩
    simp only [spec_l2Text.l1, impl_grammarText.l1]
    rw [if_neg (by omega), if_pos (by omega), if_neg (by omega), if_pos (by omega)]
    exact h k (by omega)
  | succ d ih =>
    intro j a hj hd ha
    have h4 := hx.2.1
    have hy := hx.2.2 j (by omega)
    obtain ⟨b, hs, hl1, hl2⟩ := letter_same (rd x.f1 j) hy.1 hy.2
    obtain ⟨r, K, h⟩ := ih (j + 1) (a ++ b) (by omega) (by omega) (by rw [ByteArray.size_append]; omega)
    refine ⟨r, K + 1, fun k hk => ?_⟩
    obtain ⟨k, rfl⟩ : ∃ m, k = m + 1 := ⟨k - 1, by omega⟩
    simp only [spec_l2Text.l1, impl_grammarText.l1]
    rw [if_pos (by omega), if_pos (by omega), if_pos (by omega), hl1, if_pos (by omega), if_pos (by omega), if_pos (by omega), hl2]
    simp only [Option.bind_some]
    rw [if_pos (by omega), if_pos (by omega), show wrap64 ((j : Int) + 1) = ((j + 1 : Nat) : Int) by unfold wrap64; omega]
    exact h k (by omega)
theorem text_outer (l : List S44) (hl : l.length ≤ 16) (hg : ∀ j : Nat, j < l.length → okT6 (rd_T44 l j)) (d : Nat) :
    ∀ (i : Nat) (a : ByteArray), i ≤ l.length → l.length - i = d → a.size ≤ 4 + 7 * i → ∃ r, ∃ K : Nat, ∀ k, K ≤ k → spec_l2Text.l0 k a l l.length i = some r ∧ impl_grammarText.l0 k a l l.length i = some r := by
  induction d with
  | zero =>
    intro i a hi hd ha
    refine ⟨a, 1, fun k hk => ?_⟩
    obtain ⟨k, rfl⟩ : ∃ m, k = m + 1 := ⟨k - 1, by omega⟩
    simp only [spec_l2Text.l0, impl_grammarText.l0]
    rw [if_neg (by omega), if_neg (by omega)]
    exact ⟨rfl, rfl⟩
  | succ d ih =>
    intro i a hi hd ha
    have hx := hg i (by omega)
    obtain ⟨b, hs, hl1, hl2⟩ := letter_same (rd_T44 l i).f0 (by have := hx.1; omega) hx.1.2
    have hb2 : (b ++ (⟨#[61]⟩ : ByteArray)).size = 2 := by rw [ByteArray.size_append, hs]; rfl
    obtain ⟨r, K, h⟩ := text_inner l l.length i (rd_T44 l i) hx (6 + 7 * i) (by omega) (fun a' ha' => by
      rw [show wrap64 ((i : Int) + 1) = ((i + 1 : Nat) : Int) by unfold wrap64; omega]
      exact ih (i + 1) a' (by omega) (by omega) (by omega)) (rd_T44 l i).f1.length 0 (a ++ (b ++ (⟨#[61]⟩ : ByteArray))) (by omega) (by omega) (by rw [ByteArray.size_append, hb2]; omega)
    refine ⟨r, K + 1, fun k hk => ?_⟩
    obtain ⟨k, rfl⟩ : ∃ m, k = m + 1 := ⟨k - 1, by omega⟩
    simp only [spec_l2Text.l0, impl_grammarText.l0]
    rw [if_pos (by omega), if_pos (by omega), if_pos (by omega), hl1, if_pos (by omega), if_pos (by omega), if_pos (by omega), hl2]
    simp only [Option.bind_some]
    rw [if_pos (by omega), if_pos (by omega), if_pos (by omega), if_pos (by omega)]
    exact h k (by omega)
theorem pure_GrammarText (n t : Int) (g : List S44) (hs : smallI g) :
    ∃ (r : ByteArray) (b : Bool), Ev (fun k => spec_GrammarText.f k n t g) (r, b) ∧ Ev (fun k => impl_GrammarText.f k n t g) (r, b) := by
  obtain ⟨K, hg⟩ := spec_GoodGrammar_ev n t g hs
  try dsimp only at hg
  by_cases c : goodG n t g = true
  · obtain ⟨hn, ht, hl, hx⟩ := goodG_okT6 c
    obtain ⟨b1, s1, p1, q1⟩ := digit_same n hn.1 hn.2
    obtain ⟨b2, s2, p2, q2⟩ := digit_same t ht.1 (by omega)
    have z1 : (b1 ++ (⟨#[32]⟩ : ByteArray)).size = 2 := by rw [ByteArray.size_append, s1]; rfl
    have z2 : ((b1 ++ (⟨#[32]⟩ : ByteArray)) ++ b2).size = 3 := by rw [ByteArray.size_append, z1, s2]
    have z3 : (((b1 ++ (⟨#[32]⟩ : ByteArray)) ++ b2) ++ (⟨#[10]⟩ : ByteArray)).size = 4 := by rw [ByteArray.size_append, z2]; rfl
    obtain ⟨r, K2, h⟩ := text_outer g hl hx g.length 0 (((b1 ++ (⟨#[32]⟩ : ByteArray)) ++ b2) ++ (⟨#[10]⟩ : ByteArray)) (by omega) (by omega) (by omega)
    refine ⟨r, true, ⟨K + K2 + 1, fun k hk => ?_⟩, ⟨K2 + 1, fun k hk => ?_⟩⟩
    · dsimp only
      obtain ⟨k, rfl⟩ : ∃ m, k = m + 1 := ⟨k - 1, by omega⟩
      unfold spec_GrammarText.f
      rw [hg _ (by omega), c]; simp only [Option.bind_some]
      rw [if_pos trivial]
      unfold spec_l2Text.f
      rw [p1]; simp only [Option.bind_some]
      rw [if_pos (by omega), p2]; simp only [Option.bind_some]
      rw [if_pos (by omega), if_pos (by omega), show (0 : Int) = ((0 : Nat) : Int) from rfl, (h (k + 1) (by omega)).1]; rfl
    · dsimp only
      unfold impl_GrammarText.f impl_isGrammar.f
      rw [c]; simp only [Option.bind_some]
      rw [if_pos trivial]
      unfold impl_grammarText.f
      rw [q1]; simp only [Option.bind_some]
      rw [if_pos (by omega), q2]; simp only [Option.bind_some]
      rw [if_pos (by omega), if_pos (by omega), show (0 : Int) = ((0 : Nat) : Int) from rfl, (h k (by omega)).2]; rfl
  · have c := Bool.eq_false_iff.2 c
    refine ⟨⟨#[]⟩, false, ⟨K, fun k hk => ?_⟩, ⟨0, fun k hk => ?_⟩⟩
    · dsimp only
      unfold spec_GrammarText.f
      rw [hg _ (by omega), c]; rfl
    · dsimp only
      unfold impl_GrammarText.f impl_isGrammar.f
      rw [c]; rfl
theorem holds_FnExactGrammarText (w : World) (a0_0 a0_1 : Int) (A0_2 : Option Addr) (c0_2 : Nat) (l0_2 : List S42) (hr : Kd.C k42 w A0_2 l0_2.length l0_2) (hc : l0_2.length ≤ c0_2) :
    Calls Tryd.prog 3 #[.agg #[.int .i64 a0_0, .int .i64 a0_1, .slice A0_2 l0_2.length c0_2]] w fun e w' => e = .returned (.bool true) ∧ Below w.heap.size w w' := by
  obtain ⟨hl, hri⟩ := reads_small hr
  obtain ⟨t, ⟨K0, hz⟩, hsm⟩ := szGrammar_ev a0_0 a0_1 l0_2 hl hri
  dsimp only at hz
  have key : ∃ k, laws_FnExactGrammarText.f k a0_0 a0_1 l0_2 = some true := by
    by_cases ht : t < 0
    · refine ⟨K0, ?_⟩
      unfold laws_FnExactGrammarText.f
      rw [hz K0 (Nat.le_refl _)]; simp only [Option.bind_some]; rw [if_pos ht]
    · have hs := hsm (by omega)
      obtain ⟨K1, h1⟩ := toGrammar_ev a0_0 a0_1 l0_2 hs
      obtain ⟨r, b, ⟨K2, h2⟩, ⟨K6, h6⟩⟩ := pure_GrammarText a0_0 a0_1 (convs l0_2) (smallI_convs hs)
      obtain ⟨K3, h3⟩ := eqGrammar_ev a0_0 a0_1 (convs l0_2) (smallI_convs hs)
      try dsimp only at h1
      try dsimp only at h2 h3 h6
      refine ⟨K0 + K1 + K2 + K3 + K6 + 1, ?_⟩
      unfold laws_FnExactGrammarText.f
      rw [hz _ (by omega)]; simp only [Option.bind_some]
      rw [if_neg ht, h1 _ (by omega)]; simp only [Option.bind_some]
      rw [h2 _ (by omega)]; simp only [Option.bind_some]
      rw [h6 _ (by omega)]; simp only [Option.bind_some]
      rw [if_pos trivial]
      simp only [laws_FnExactGrammarText.j0]
      rw [if_neg (by simp), h1 _ (by omega)]; simp only [Option.bind_some]
      rw [h3 _ (by omega)]; rfl
  obtain ⟨k, h⟩ := key
  exact laws_FnExactGrammarText.calls k a0_0 a0_1 A0_2 c0_2 l0_2 true w hr hc h
end Go.Proofs.YtpcbjhfgfmmneaaDoor.P

/-! Open -/
/- What came in, as the print reads it: out of the form's reading of an argument (DataW.trod) the facts 'Kd.K' and 'Kd.C', kind by kind. -/
namespace Go.Proofs.YtpcbjhfgfmmneaaDoor.Open
open Go.RowKit Go.Proofs.YtpcbjhfgfmmneaaDoorW.PrintWords
section
variable {H : Type} {enc : TypeId × Value → H} {P : Program} {w : World}

/-- Whatever is read at type t is of kind d. -/
def Opens {α : Type} (enc : TypeId × Value → H) (P : Program) (w : World) (t : TypeId) (d : Kd α) : Prop :=
  ∀ (fuel : Nat) (cs : List Value) (x : DataW H × List MemPlace), DataW.trod enc P w 0 (fun _ => true) true fuel t cs = some x → ∃ y : α, d.K w y cs

theorem opens_int {t : TypeId} {k : IntKind} (ht : P.underlying t = some (.int k)) : Opens enc P w t (Kd.int k) := by
  intro fuel cs x h
  cases fuel with
  | zero => simp [DataW.trod] at h
  | succ fuel =>
    unfold DataW.trod at h
    rw [ht] at h
    split at h <;> first | (cases h; done) | skip
    all_goals first | (rename_i hh; cases hh; done) | skip
    all_goals try (rename_i k' n heq; cases heq)
    all_goals
      split at h
      · rename_i hk
        obtain ⟨rfl, _⟩ := hk
        exact ⟨_, rfl⟩
      · cases h

theorem each_mapM {α β : Type} {f : α → Option β} : ∀ {l : List α} {ys : List β}, l.mapM f = some ys → ∀ a ∈ l, ∃ y, f a = some y := by
  intro l
  induction l with
  | nil => intro ys _ a ha; cases ha
  | cons b l ih =>
    intro ys h a ha
    rw [List.mapM_cons] at h
    cases hb : f b with
    | none => rw [hb] at h; cases h
    | some z =>
      rw [hb] at h
      cases hl : l.mapM f with
      | none => rw [hl] at h; cases h
      | some zs =>
        rcases List.mem_cons.1 ha with rfl | ha
        · exact ⟨z, hb⟩
        · exact ih hl a ha

theorem opens_slice {α : Type} {t e : TypeId} {d : Kd α} (ht : P.underlying t = some (.slice e)) (hs : P.cellsOf e = d.sz) (hd : Opens enc P w e d) : Opens enc P w t (Kd.slice e d) := by
  intro fuel cs x h
  rcases Go.Deep.open_slice ht h with ⟨rfl, _⟩ | ⟨a, len, cap, m, n, D, Pl, rfl, hb, hl, hm, hmm, rfl, hx⟩
  · exact ⟨[], none, 0, rfl, Nat.le_refl _, rfl, Nat.zero_le _, fun h0 => absurd h0 (Nat.lt_irrefl _)⟩
  · simp only [if_true] at hmm
    subst hmm
    have each : ∀ i, i < len → ∃ y : α, ∃ c, c.length = d.sz ∧ d.K w y c ∧ ∀ j u, c[j]? = some u → w.cell? (a.add (i * d.sz + j)) = some u := by
      intro i hi
      obtain ⟨cs', h1, h2⟩ := hx i (by omega)
      obtain ⟨y, hy⟩ := hd _ _ _ h2
      obtain ⟨_, hlen, hc⟩ := World.cells?_some h1
      refine ⟨y, cs', d.K_len hy, hy, fun j u hu => ?_⟩
      have hj := (List.getElem?_eq_some_iff.1 hu).1
      have := hc j (by omega)
      rw [hu] at this
      rw [← this, hs]
      unfold Addr.add
      by_cases h0 : i * d.sz = 0 <;> by_cases h1 : j = 0 <;> simp [h0, h1, Nat.add_assoc]
    have pick : ∃ f : Nat → Option α, ∀ i, i < len → ∃ y, f i = some y ∧ ∃ c, c.length = d.sz ∧ d.K w y c ∧ ∀ j u, c[j]? = some u → w.cell? (a.add (i * d.sz + j)) = some u := by
      classical
      refine ⟨fun i => if hi : i < len then some (Classical.choose (each i hi)) else none, fun i hi => ⟨_, dif_pos hi, Classical.choose_spec (each i hi)⟩⟩
    obtain ⟨f, hf⟩ := pick
    refine ⟨(List.range len).filterMap f, some a, m, ?_, ?_, ?_⟩
    all_goals
      have hlen : ((List.range len).filterMap f).length = len ∧ ∀ j, j < len → ((List.range len).filterMap f)[j]? = f j := by
        have key : ∀ n, n ≤ len → ((List.range n).filterMap f).length = n ∧ ∀ j, j < n → ((List.range n).filterMap f)[j]? = f j := by
          intro n
          induction n with
          | zero => exact fun _ => ⟨rfl, fun j hj => absurd hj (Nat.not_lt_zero _)⟩
          | succ n ih =>
            intro hn
            obtain ⟨h1, h2⟩ := ih (by omega)
            obtain ⟨y, hy, _⟩ := hf n (by omega)
            have e : (List.range (n + 1)).filterMap f = (List.range n).filterMap f ++ [y] := by
              rw [List.range_succ, List.filterMap_append]; simp [hy]
            rw [e]
            refine ⟨by simp [h1], fun j hj => ?_⟩
            by_cases hj' : j < n
            · rw [List.getElem?_append_left (by omega)]; exact h2 j hj'
            · obtain rfl : j = n := by omega
              rw [List.getElem?_append_right (by omega), h1, hy]; simp
        exact key len (Nat.le_refl _)
    · rw [hlen.1]
    · rw [hlen.1]; exact hl
    · refine ⟨rfl, by rw [hlen.1]; simp only [maxLen] at hm; omega, fun _ => ⟨a, rfl, fun j p hj => ?_⟩⟩
      have hjl := (List.getElem?_eq_some_iff.1 hj).1
      rw [hlen.1] at hjl
      rw [hlen.2 j hjl] at hj
      obtain ⟨y, hy, c, h1, h2, h3⟩ := hf j hjl
      rw [hy] at hj
      injection hj with hj
      subst hj
      exact ⟨c, h1, h2, h3⟩

/-- A struct: each field is read at its place. -/
theorem open_struct {t : TypeId} {fs : Array Field} {fuel : Nat} {cs : List Value} {x : DataW H × List MemPlace} (ht : P.underlying t = some (.struct fs)) (h : DataW.trod enc P w 0 (fun _ => true) true fuel t cs = some x) :
    cs.length = P.cellsOf t ∧ ∃ fuel', ∀ f ∈ fs.toList, ∃ y, DataW.trod enc P w 0 (fun _ => true) true fuel' f.type ((cs.drop f.offset).take (P.cellsOf f.type)) = some y := by
  cases fuel with
  | zero => simp [DataW.trod] at h
  | succ fuel =>
    unfold DataW.trod at h
    rw [ht] at h
    simp only at h
    split at h
    · rename_i hl
      refine ⟨hl, fuel, fun f hf => ?_⟩
      cases hm : (fs.toList.mapM fun f => DataW.trod enc P w 0 (fun _ => true) true fuel f.type ((cs.drop f.offset).take (P.cellsOf f.type))) with
      | none => rw [hm] at h; cases h
      | some ys => exact each_mapM hm f hf
    · cases h
end
end Go.Proofs.YtpcbjhfgfmmneaaDoor.Open

/-! OpenG -/
/- A grammar that came in, as the print reads it. -/
namespace Go.Proofs.YtpcbjhfgfmmneaaDoor.Open
open Go.RowKit Go.Proofs.YtpcbjhfgfmmneaaDoorW.PrintWords Go.Proofs.YtpcbjhfgfmmneaaDoor.P Go.ChangeShapes Go.WideShapes
section
variable {H : Type} {enc : TypeId × Value → H} {w : World}

theorem cells_int : Tryd.prog.cellsOf 3 = 1 := by kernel_rfl
theorem cells_ints : Tryd.prog.cellsOf 40 = 1 := by kernel_rfl
theorem cells_rule : Tryd.prog.cellsOf 42 = 2 := by kernel_rfl
theorem cells_rules : Tryd.prog.cellsOf 22 = 1 := by kernel_rfl
theorem cells_grammar : Tryd.prog.cellsOf 24 = 3 := by kernel_rfl

theorem opens_i : Opens enc Tryd.prog w 3 (Kd.int .i64) := opens_int Tryd.underlying3
theorem opens_ints : Opens enc Tryd.prog w 40 (Kd.slice 3 (Kd.int .i64)) := opens_slice Tryd.underlying40 cells_int opens_i
set_option maxRecDepth 100000 in
theorem opens_rule : Opens enc Tryd.prog w 42 k42 := by
  intro fuel cs x h
  obtain ⟨hl, n, hf⟩ := open_struct Tryd.underlying42 h
  rw [cells_rule] at hl
  have h0 := hf _ List.mem_cons_self
  have h1 := hf _ (List.mem_cons_of_mem _ List.mem_cons_self)
  match cs, hl with
  | [c0, c1], _ =>
    obtain ⟨y0, h0⟩ := h0
    obtain ⟨y1, h1⟩ := h1
    simp only [cells_int, cells_ints] at h0 h1
    obtain ⟨i, hi⟩ := opens_i n _ _ h0
    obtain ⟨l, A, c, hc, hlc, hC⟩ := opens_ints n _ _ h1
    have e0 : c0 = .int .i64 i := (List.cons.inj (show [c0] = [(.int .i64 i : Value)] from hi)).1
    have e1 : c1 = .slice A l.length c := (List.cons.inj (show [c1] = [(.slice A l.length c : Value)] from hc)).1
    subst e0 e1
    exact ⟨⟨i, l⟩, k42_mk w ⟨i, l⟩ hlc hC⟩
theorem opens_rules : Opens enc Tryd.prog w 22 (Kd.slice 42 k42) := opens_slice Tryd.underlying22 cells_rule opens_rule
set_option maxRecDepth 100000 in
/-- A grammar, as an argument. -/
theorem open_grammar {v : Value} {d : DataW H} {ps : List MemPlace} {r : Reach} {b0 : Nat} (hv : Value.okWide Tryd.prog w r b0 24 v) (h : DataW.Trod enc Tryd.prog w 0 (fun _ => true) true 24 v d ps) :
    ∃ (a0 a1 : Int) (A : Option Addr) (c : Nat) (l : List S42), v = .agg #[.int .i64 a0, .int .i64 a1, .slice A l.length c] ∧ l.length ≤ c ∧ Kd.C k42 w A l.length l := by
  obtain ⟨cs, rfl, hsz⟩ := okWide_struct Tryd.underlying24 hv
  obtain ⟨fuel, h⟩ := h
  obtain ⟨hl, n, hf⟩ := open_struct Tryd.underlying24 h
  rw [cells_grammar] at hl
  have h0 := hf _ List.mem_cons_self
  have h1 := hf _ (List.mem_cons_of_mem _ List.mem_cons_self)
  have h2 := hf _ (List.mem_cons_of_mem _ (List.mem_cons_of_mem _ List.mem_cons_self))
  obtain ⟨L⟩ := cs
  match L, hl with
  | [c0, c1, c2], _ =>
    obtain ⟨y0, h0⟩ := h0
    obtain ⟨y1, h1⟩ := h1
    obtain ⟨y2, h2⟩ := h2
    simp only [cells_int, cells_rules] at h0 h1 h2
    obtain ⟨i, hi⟩ := opens_i n _ _ h0
    obtain ⟨j, hj⟩ := opens_i n _ _ h1
    obtain ⟨l, A, c, hc, hlc, hC⟩ := opens_rules n _ _ h2
    have e0 : c0 = .int .i64 i := (List.cons.inj (show [c0] = [(.int .i64 i : Value)] from hi)).1
    have e1 : c1 = .int .i64 j := (List.cons.inj (show [c1] = [(.int .i64 j : Value)] from hj)).1
    have e2 : c2 = .slice A l.length c := (List.cons.inj (show [c2] = [(.slice A l.length c : Value)] from hc)).1
    subst e0 e1 e2
    exact ⟨i, j, A, c, l, rfl, hlc, hC⟩
set_option maxRecDepth 100000 in
/-- Numbers, as an argument. -/
theorem open_nums {v : Value} {d : DataW H} {ps : List MemPlace} {r : Reach} {b0 : Nat} (hv : Value.okWide Tryd.prog w r b0 40 v) (h : DataW.Trod enc Tryd.prog w 0 (fun _ => true) true 40 v d ps) :
    ∃ (A : Option Addr) (c : Nat) (l : List Int), v = .slice A l.length c ∧ l.length ≤ c ∧ Kd.C (Kd.int .i64) w A l.length l := by
  obtain ⟨A, len, cap, rfl⟩ := okWide_slice Tryd.underlying40 hv
  obtain ⟨fuel, h⟩ := h
  obtain ⟨l, A', c', hc, hlc, hC⟩ := opens_ints fuel _ _ h
  simp [Value.cells] at hc
  obtain ⟨rfl, rfl, rfl⟩ := hc
  exact ⟨_, _, l, rfl, hlc, hC⟩
end
end Go.Proofs.YtpcbjhfgfmmneaaDoor.Open

/-! LawFnExactGrammarTextCard -/
/- Proved: for all arguments GrammarText of the program returns what GrammarText of the reference returns; it leaves its arguments as they were, and shares no memory. No condition. -/
namespace Go.Proofs.YtpcbjhfgfmmneaaDoor.fnExactGrammarText
open Go.ChangeShapes Go.WideShapes Go.ChangeAt Go.RowKit
open Go.ChangeMaps (open_string shut_string)
set_option linter.unusedVariables false
theorem own : ownKnob Tryd.prog.godebug = none := by kernel_rfl
theorem laidOut : laidOutB Tryd.prog = true := by kernel_rfl
/-- The door's own heap meets the condition. -/
theorem door_met (os : Os) (args : Array Value) : laidMetH Tryd.prog Rows.fnExactGrammarTextRow.laid ((World.doorLaid Tryd.prog 24 os).forCall (fun _ _ => 0) ⟨#[], args, []⟩).memory :=
  laidMetH_of_parts3 (fuel := 8) (laidMet_of_run' 8 (by kernel_rfl) (by kernel_rfl)) (by kernel_rfl) (by kernel_rfl)
set_option maxRecDepth 100000 in
theorem lifted (os : Os) (started : os.Started) (H : Type) (enc : TypeId × Value → H) :
    ReturnsInHanded {} Tryd.checked os 3 .any (fun w args => (Rows.fnExactGrammarTextSpec.pre enc Tryd.prog Tryd.f3 [] false w args ∧ laidMetH Tryd.prog Rows.fnExactGrammarTextRow.laid w) ∧ sizedMet enc Tryd.prog Tryd.f3 (OpenSpec.ofChange Rows.fnExactGrammarTextSpec) false w args)
      (Rows.fnExactGrammarTextSpec.post enc Tryd.prog Tryd.f3 false true false false) := by
  refine returnsInHanded_of_change_and (C := Tryd.checked) (X := fun w _ => laidMetH Tryd.prog Rows.fnExactGrammarTextRow.laid w) (fun _ _ _ hh h => h.of_heap hh) own started (by kernel_rfl) Tryd.func3
    (ChangeSpec.witness_shaped (enc := enc) (C := Tryd.checked) (os := os) (X := fun w _ => laidMetH Tryd.prog Rows.fnExactGrammarTextRow.laid w) false (World.doorLaid Tryd.prog 24 os) #[.agg #[.int .i64 0, .int .i64 0, .slice none 0 0]] 8 rfl (World.shaped_of_RefB (by kernel_rfl) (by kernel_rfl)) (by kernel_rfl) (by kernel_rfl) (by kernel_rfl) (door_met os _)) ?_
  intro W base args ds gs before hval0 hW hcnd hsz0 _ _
  have hval : ∀ (j : Nat) t v, Tryd.f3.params[j]? = some t → args[j]? = some v → Value.okWide Tryd.prog W .any base t v := hval0
  have hW' := hW
  obtain ⟨p, q, hA0, hV, rfl, hfz, hnd⟩ := hW
  have hA : DataW.TrodAll enc Tryd.prog W 0 (fun _ => true) true Tryd.f3.params.toList args.toList ds p := hA0
  rw [Tryd.params3] at hA hval
  obtain ⟨v0, vs0, d0, ds0, p0, q0, hargs, rfl, rfl, h0, r0⟩ := trodAll_cons hA
  obtain ⟨rfl, rfl, rfl⟩ := trodAll_nil r0
  obtain rfl : args = #[v0] := by cases args; simp_all
  obtain ⟨rfl, rfl⟩ := trodVars_none hV
  have lt0 : ∀ x ∈ p0, x.block < W.heap.size := by obtain ⟨m, hm⟩ := h0; exact DataW.trod_lt m _ _ _ hm
  have k0 := h0
  obtain ⟨a0_0, a0_1, A0_2, c0_2, l0_2, rfl, hc0_2, hr0_2⟩ := Open.open_grammar (hval 0 24 v0 rfl rfl) h0
  clear hA0 hval0 hsz0
  refine (P.holds_FnExactGrammarText W a0_0 a0_1 A0_2 c0_2 l0_2 hr0_2 hc0_2).mono fun e W' ⟨he, bel⟩ => ?_
  subst he
  exact ⟨_, rfl, _, _, _, [], _, [], hW', trodAll_mk1 (shut_bool Tryd.underlying4 _), (trodAll_cons_mk (Below.trod laidOut (by kernel_rfl) (of_decide_eq_true (by kernel_rfl)) k0 bel lt0) trodAll_mk0), rfl, bel.frame _, fun h => by cases h⟩
theorem over : Rows.fnExactGrammarTextRow.holds Tryd.pinned (OpenSpec.ofChange Rows.fnExactGrammarTextSpec) :=
  OpenClaim.holds_of_wide 3 Tryd.f3 rfl rfl rfl rfl rfl rfl rfl ⟨rfl, rfl, rfl, rfl, rfl⟩ rfl rfl rfl rfl rfl (by kernel_rfl) Tryd.func3 (by kernel_rfl)
    (of_decide_eq_true (by kernel_rfl)) (by unfold Func.isWrapper; first | (rw [if_pos (by decide +kernel)]; kernel_rfl) | (rw [if_neg (by decide +kernel)]; exact ⟨rfl, rfl⟩))
    (fun os started H enc _ => lifted os started H enc)
/-- The row's card, tied to the program's text by the given tie. -/
theorem proved : Rows.FnExactGrammarTextCardSaid :=
  Claim7.holds_tied_plain_at .later [] [.data, .data, .data] true (true, "ef3baa327542c209cdbd31e5ff0e54a08b6b5a65f4c323877f37f2e0b4e49149") false
    over (fun _ h => by cases h) (by kernel_rfl) (fun _ h => by cases h) fnExactGrammarText_row_tie rfl ⟨rfl, rfl⟩ (by kernel_rfl) rfl
    (fun f fn hf hfn => by
      obtain rfl : f = 3 := Option.some.inj ((show Tryd.prog.funcNamed "loop.example/g00758/laws.FnExactGrammarText" = some 3 by kernel_rfl).symm.trans hf) |>.symm
      obtain rfl : fn = Tryd.f3 := (Option.some.inj (Tryd.func3.symm.trans hfn)).symm
      exact ⟨by kernel_rfl, fun j t ht => by
        rw [Tryd.params3] at ht
        have hm : t ∈ [24] := by simpa using Array.mem_of_getElem? ht
        have hall : ([24].all fun u => !Tryd.prog.wantsStandIn u) = true := by kernel_rfl
        exact (show Tryd.prog.wantsStandIn t = false by simpa using List.all_eq_true.1 hall t hm)⟩)
    (by kernel_rfl)
#print axioms proved
end Go.Proofs.YtpcbjhfgfmmneaaDoor.fnExactGrammarText
namespace Go.Proofs.YtpcbjhfgfmmneaaDoor
/-- The row, under a short name, for the claim. -/
theorem fnExactGrammarTextCard_holds : Rows.FnExactGrammarTextCardSaid := fnExactGrammarText.proved
end Go.Proofs.YtpcbjhfgfmmneaaDoor

