/- Proved: for all arguments SameGrammar of the program returns what SameGrammar of the reference returns; it leaves its arguments as they were, and shares no memory. No condition. -/
import Derived.Test.YtbcfoljdejmigaaB2
import Derived.Test.YtbcfoljdejmigaaQFnExactSameGrammarp0
import Derived.Test.YtbcfoljdejmigaaQFnExactSameGrammarp1
import Derived.Test.YtbcfoljdejmigaaRows
import Derived.Test.YtbcfoljdejmigaaB1
import Derived.WalkKit
import Derived.ProofKit
import Derived.OpenShut
import Derived.ShutString
import Derived.ChangeOld
import Derived.Below
import Derived.SizedLaws
/-! ZFnExactSameGrammar -/
/- The law of SameGrammar answers true at whatever two grammars. -/
namespace Go.Proofs.Ytbcfoljdejmigaa.P
open Go.RowKit Go.Proofs.YtbcfoljdejmigaaW.PrintWords
set_option linter.unusedVariables false
set_option linter.unusedSimpArgs false
theorem szGrammar_from (a0 a1 : Int) (l : List S88) (hl : l.length ≤ 9223372036854775807) (hr : ∀ i : Nat, i < l.length → (rd_T88 l i).f1.length ≤ 9223372036854775807) (a : Int) (ha : 0 ≤ a) (ha2 : a ≤ 1048576) :
    ∃ t, Ev (fun k => laws_szGrammar.f k a0 a1 l a) t ∧ t ≤ 1048576 ∧ (0 ≤ t → smallG l) := by
  by_cases hs : a - l.length < 0
  · refine ⟨-1, ⟨0, fun k hk => ?_⟩, by omega, fun h => by omega⟩
    dsimp only
    unfold laws_szGrammar.f laws_szRuleS.f
    rw [w64 (by omega) (by omega), if_pos hs]; rfl
  · obtain ⟨t, ⟨K, ht⟩, hsm⟩ := szRuleS_loop l hl hr l.length 0 (a - l.length) (by omega) (by omega) (by omega) (by omega)
    try dsimp only at ht
    by_cases h0 : t < 0
    · refine ⟨-1, ⟨K, fun k hk => ?_⟩, by omega, fun h => by omega⟩
      dsimp only
      unfold laws_szGrammar.f laws_szRuleS.f
      rw [w64 (by omega) (by omega), if_neg hs, show ((0 : Int)) = ((0 : Nat) : Int) from rfl, ht k hk]; simp only [Option.bind_some]
      rw [if_pos (by omega)]
    · refine ⟨t, ⟨K, fun k hk => ?_⟩, (hsm (by omega)).1, fun h => ⟨by omega, fun j hj => (hsm h).2 j (by omega) hj⟩⟩
      dsimp only
      unfold laws_szGrammar.f laws_szRuleS.f
      rw [w64 (by omega) (by omega), if_neg hs, show ((0 : Int)) = ((0 : Nat) : Int) from rfl, ht k hk]; simp only [Option.bind_some]
      rw [if_neg (by omega)]
theorem same_loop (a b : List S61) (ha : smallI a) (n m n' m' : Int) (hl : a.length = b.length) (d : Nat) : ∀ i, i ≤ a.length → a.length - i = d → Ev (fun k => spec_SameGrammar.l0 k a.length i n m a n' m' b) (eqD a b d) := by
  have hb := ha.1
  induction d with
  | zero =>
    intro i h1 hd
    refine ⟨1, fun k hk => ?_⟩
    try dsimp only
    obtain ⟨k, rfl⟩ : ∃ m, k = m + 1 := ⟨k - 1, by omega⟩
    simp only [spec_SameGrammar.l0]; rw [if_neg (by omega)]; rfl
  | succ d ih =>
    intro i h1 hd
    have hbi := ha.2 i (by omega)
    obtain ⟨K, h⟩ := ih (i + 1) (by omega) (by omega)
    try dsimp only at h
    refine ⟨K + (rd_T61 a i).f1.length + 2, fun k hk => ?_⟩
    try dsimp only
    obtain ⟨k, rfl⟩ : ∃ m, k = m + 1 := ⟨k - 1, by omega⟩
    have e : a.length - (d + 1) = i := by omega
    simp only [spec_SameGrammar.l0, eqD, e]
    rw [if_pos (by omega), if_pos (by omega), if_pos (by omega), if_pos (by omega), l1SameRule_eq _ _ (by omega) k (by omega)]
    simp only [Option.bind_some]
    cases sameR (rd_T61 a i) (rd_T61 b i) with
    | true =>
      rw [if_pos rfl, show wrap64 ((i : Int) + 1) = ((i + 1 : Nat) : Int) by unfold wrap64; omega, h k (by omega)]; rfl
    | false => rfl
theorem spec_SameGrammar_ev (n m : Int) (a : List S61) (n' m' : Int) (b : List S61) (ha : smallI a) : Ev (fun k => spec_SameGrammar.f k n m a n' m' b) (decide (n = n') && (decide (m = m') && eqRs a b)) := by
  have hb := ha.1
  by_cases hl : a.length = b.length
  · obtain ⟨K, h⟩ := same_loop a b ha n m n' m' hl a.length 0 (by omega) (by omega)
    try dsimp only at h
    refine ⟨K + 1, fun k hk => ?_⟩
    try dsimp only
    obtain ⟨k, rfl⟩ : ∃ m, k = m + 1 := ⟨k - 1, by omega⟩
    unfold spec_SameGrammar.f eqRs
    rw [decide_eq_true hl]
    by_cases c1 : n = n'
    · rw [if_pos c1, decide_eq_true c1]
      by_cases c2 : m = m'
      · rw [if_pos c2, decide_eq_true c2]
        simp only [spec_SameGrammar.j0]
        rw [if_neg (by simp; omega), show (0 : Int) = ((0 : Nat) : Int) from rfl, h k (by omega)]; rfl
      · rw [if_neg c2, decide_eq_false c2]; simp [spec_SameGrammar.j0]
    · rw [if_neg c1, decide_eq_false c1]; simp [spec_SameGrammar.j0]
  · refine ⟨1, fun k hk => ?_⟩
    try dsimp only
    obtain ⟨k, rfl⟩ : ∃ m, k = m + 1 := ⟨k - 1, by omega⟩
    unfold spec_SameGrammar.f eqRs
    rw [decide_eq_false hl]
    have e : ((a.length : Int) != (b.length : Int)) = true := by simp; omega
    by_cases c1 : n = n'
    · rw [if_pos c1]
      by_cases c2 : m = m'
      · rw [if_pos c2, e]; simp [spec_SameGrammar.j0]
      · rw [if_neg c2]; simp [spec_SameGrammar.j0]
    · rw [if_neg c1]; simp [spec_SameGrammar.j0]
theorem holds_FnExactSameGrammar (w : World) (a0_0 a0_1 : Int) (A0_2 : Option Addr) (c0_2 : Nat) (l0_2 : List S88) (hr : Kd.C k88 w A0_2 l0_2.length l0_2) (hc : l0_2.length ≤ c0_2)
    (a1_0 a1_1 : Int) (A1_2 : Option Addr) (c1_2 : Nat) (l1_2 : List S88) (hr1 : Kd.C k88 w A1_2 l1_2.length l1_2) (hc1 : l1_2.length ≤ c1_2) :
    Calls Try.prog 6 #[.agg #[.int .i64 a0_0, .int .i64 a0_1, .slice A0_2 l0_2.length c0_2], .agg #[.int .i64 a1_0, .int .i64 a1_1, .slice A1_2 l1_2.length c1_2]] w fun e w' => e = .returned (.bool true) ∧ Below w.heap.size w w' := by
  obtain ⟨hl, hri⟩ := reads_small hr
  obtain ⟨hl1, hri1⟩ := reads_small hr1
  obtain ⟨t, ⟨K0, hz⟩, hle, hsm⟩ := szGrammar_from a0_0 a0_1 l0_2 hl hri 1048576 (by omega) (by omega)
  dsimp only at hz
  have key : ∃ k, laws_FnExactSameGrammar.f k a0_0 a0_1 l0_2 a1_0 a1_1 l1_2 = some true := by
    by_cases ht : t < 0
    · refine ⟨K0, ?_⟩
      unfold laws_FnExactSameGrammar.f
      rw [hz K0 (Nat.le_refl _)]; simp only [Option.bind_some]; rw [if_pos ht]
    · obtain ⟨t2, ⟨K1, hz2⟩, hle2, hsm2⟩ := szGrammar_from a1_0 a1_1 l1_2 hl1 hri1 t (by omega) hle
      dsimp only at hz2
      by_cases ht2 : t2 < 0
      · refine ⟨K0 + K1, ?_⟩
        unfold laws_FnExactSameGrammar.f
        rw [hz _ (by omega)]; simp only [Option.bind_some]; rw [if_neg ht, hz2 _ (by omega)]; simp only [Option.bind_some]; rw [if_pos ht2]
      · have hs := hsm (by omega)
        have hs2 := hsm2 (by omega)
        obtain ⟨K2, h2⟩ := toGrammar_ev a0_0 a0_1 l0_2 hs
        try dsimp only at h2
        obtain ⟨K3, h3⟩ := toGrammar_ev a1_0 a1_1 l1_2 hs2
        try dsimp only at h3
        obtain ⟨K4, h4⟩ := spec_SameGrammar_ev a0_0 a0_1 (convs l0_2) a1_0 a1_1 (convs l1_2) (smallI_convs hs)
        try dsimp only at h4
        obtain ⟨K5, h5⟩ := eqGrammar_ev a0_0 a0_1 (convs l0_2) (smallI_convs hs)
        try dsimp only at h5
        obtain ⟨K6, h6⟩ := eqGrammar_ev a1_0 a1_1 (convs l1_2) (smallI_convs hs2)
        dsimp only at h2 h3 h4 h5 h6
        refine ⟨K0 + K1 + K2 + K3 + K4 + K5 + K6, ?_⟩
        unfold laws_FnExactSameGrammar.f
        rw [hz _ (by omega)]; simp only [Option.bind_some]
        rw [if_neg ht, hz2 _ (by omega)]; simp only [Option.bind_some]
        rw [if_neg ht2, h2 _ (by omega)]; simp only [Option.bind_some]
        rw [h3 _ (by omega)]; simp only [Option.bind_some]
        rw [h4 _ (by omega)]; simp only [Option.bind_some]
        unfold impl_SameGrammar.f
        simp only [Option.bind_some]
        rw [if_neg (by simp), h5 _ (by omega)]; simp only [Option.bind_some, if_true]
        rw [h6 _ (by omega)]; rfl
  obtain ⟨k, h⟩ := key
  exact laws_FnExactSameGrammar.calls k a0_0 a0_1 A0_2 c0_2 l0_2 a1_0 a1_1 A1_2 c1_2 l1_2 true w hr hc hr1 hc1 h
end Go.Proofs.Ytbcfoljdejmigaa.P

/-! LawFnExactSameGrammar -/
/- Proved: for all arguments SameGrammar of the program returns what SameGrammar of the reference returns; it leaves its arguments as they were, and shares no memory. No condition. -/
namespace Go.Proofs.Ytbcfoljdejmigaa.fnExactSameGrammar
open Go.ChangeShapes Go.WideShapes Go.ChangeAt Go.RowKit
open Go.ChangeMaps (open_string shut_string)
set_option linter.unusedVariables false
theorem own : ownKnob Try.prog.godebug = none := by kernel_rfl
theorem laidOut : laidOutB Try.prog = true := by kernel_rfl
set_option maxRecDepth 100000 in
theorem lifted (os : Os) (started : os.Started) (H : Type) (enc : TypeId × Value → H) :
    ReturnsInHanded {} Try.checked os 6 .any (Rows.fnExactSameGrammarSpec.pre6 enc Try.prog Try.f6 Rows.fnExactSameGrammarRow.domain false) (Rows.fnExactSameGrammarSpec.post enc Try.prog Try.f6 false true false false) := by
  refine returnsInHanded_of_change_sized (C := Try.checked) own started (by kernel_rfl) Try.func6
    (ChangeSpec.witness6 (enc := enc) (C := Try.checked) false ⟨#[], #[.agg #[.int .i64 0, .int .i64 0, .slice none 0 0], .agg #[.int .i64 0, .int .i64 0, .slice none 0 0]], []⟩ 8 (by kernel_rfl) (by kernel_rfl) (by kernel_rfl) (by kernel_rfl)) ?_
  intro W base args ds gs before hval0 hW hcnd hsz0 _
  have hval : ∀ (j : Nat) t v, Try.f6.params[j]? = some t → args[j]? = some v → Value.okWide Try.prog W .any base t v := hval0
  have hW' := hW
  obtain ⟨p, q, hA0, hV, rfl, hfz, hnd⟩ := hW
  have hA : DataW.TrodAll enc Try.prog W 0 (fun _ => true) true Try.f6.params.toList args.toList ds p := hA0
  rw [Try.params6] at hA hval
  obtain ⟨v0, vs0, d0, ds0, p0, q0, hargs, rfl, rfl, h0, r0⟩ := trodAll_cons hA
  obtain ⟨v1, vs1, d1, ds1, p1, q1, rfl, rfl, rfl, h1, r1⟩ := trodAll_cons r0
  obtain ⟨rfl, rfl, rfl⟩ := trodAll_nil r1
  obtain rfl : args = #[v0, v1] := by cases args; simp_all
  obtain ⟨rfl, rfl⟩ := trodVars_none hV
  have lt0 : ∀ x ∈ p0, x.block < W.heap.size := by obtain ⟨m, hm⟩ := h0; exact DataW.trod_lt m _ _ _ hm
  have k0 := h0
  obtain ⟨a0_0, a0_1, A0_2, c0_2, l0_2, rfl, hc0_2, hr0_2⟩ := Open.open_grammar (hval 0 24 v0 rfl rfl) h0
  have lt1 : ∀ x ∈ p1, x.block < W.heap.size := by obtain ⟨m, hm⟩ := h1; exact DataW.trod_lt m _ _ _ hm
  have k1 := h1
  obtain ⟨a1_0, a1_1, A1_2, c1_2, l1_2, rfl, hc1_2, hr1_2⟩ := Open.open_grammar (hval 1 24 v1 rfl rfl) h1
  clear hA0 hval0 hsz0
  refine (P.holds_FnExactSameGrammar W a0_0 a0_1 A0_2 c0_2 l0_2 hr0_2 hc0_2 a1_0 a1_1 A1_2 c1_2 l1_2 hr1_2 hc1_2).mono fun e W' ⟨he, bel⟩ => ?_
  subst he
  exact ⟨_, rfl, _, _, _, [], _, [], hW', trodAll_mk1 (shut_bool Try.underlying4 _), (trodAll_cons_mk (Below.trod laidOut (by kernel_rfl) (of_decide_eq_true (by kernel_rfl)) k0 bel lt0) (trodAll_cons_mk (Below.trod laidOut (by kernel_rfl) (of_decide_eq_true (by kernel_rfl)) k1 bel lt1) trodAll_mk0)), rfl, bel.frame _, fun h => by cases h⟩
theorem over : Rows.fnExactSameGrammarRow.holds Try.pinned (OpenSpec.ofChange Rows.fnExactSameGrammarSpec) :=
  OpenClaim.holds_of_wide 6 Try.f6 rfl rfl rfl rfl rfl rfl rfl ⟨rfl, rfl, rfl, rfl, rfl⟩ rfl rfl rfl rfl rfl (by kernel_rfl) Try.func6 (by kernel_rfl)
    (of_decide_eq_true (by kernel_rfl)) (by unfold Func.isWrapper; first | (rw [if_pos (by decide +kernel)]; kernel_rfl) | (rw [if_neg (by decide +kernel)]; exact ⟨rfl, rfl⟩))
    (fun os started H enc _ => lifted os started H enc)
theorem proved : Rows.FnExactSameGrammarSaid := over
#print axioms proved
end Go.Proofs.Ytbcfoljdejmigaa.fnExactSameGrammar
namespace Go.Proofs.Ytbcfoljdejmigaa
/-- The row, under a short name, for the claim. -/
theorem fnExactSameGrammar_holds : Rows.FnExactSameGrammarSaid := fnExactSameGrammar.proved
end Go.Proofs.Ytbcfoljdejmigaa

