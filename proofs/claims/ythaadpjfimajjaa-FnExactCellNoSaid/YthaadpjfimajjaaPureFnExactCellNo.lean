/- Proved: for all arguments CellNo of the program returns what CellNo of the reference returns. No condition. -/
import Derived.Test.YthaadpjfimajjaaPFnExactCellNox1
namespace Go.Proofs.Ythaadpjfimajjaa.Pure
open Go.RowKit Go.Proofs.Ythaadpjfimajjaa.PFnExactCellNo Go.Proofs.YthaadpjfimajjaaW.PrintWords Go.Proofs.YthaadpjfimajjaaW.PrintLast

namespace CellNo
theorem sIn (a b c : Int) : spec_l1In.f a b c = some (decide (b ≤ a ∧ a ≤ c)) := by
  unfold spec_l1In.f
  by_cases h : a ≥ b
  · rw [if_pos h]; congr 2; simp; omega
  · rw [if_neg h]; simp; omega
theorem iIn (a b c : Int) : impl_in.f a b c = some (decide (b ≤ a ∧ a ≤ c)) := by
  unfold impl_in.f
  by_cases h : a ≥ b
  · rw [if_pos h]; congr 2; simp; omega
  · rw [if_neg h]; simp; omega

theorem loops (n f t : Int) (hf : 0 ≤ f) (hft : f < t) (htn : t ≤ n) (hn : n ≤ 10) (d : Nat) :
    ∀ (k : Nat) (at_ long : Int), 1 ≤ long → long ≤ 10 → t - f - long ≤ d → d < k →
      ∃ r, spec_l7No.l0 k n (t - f) at_ long = some r ∧ impl_cellNo.l0 k n f t at_ long = some r := by
  have hw : wrap64 (t - f) = t - f := by unfold wrap64; omega
  induction d with
  | zero =>
    intro k a l h1 h2 hd hk
    obtain ⟨k, rfl⟩ : ∃ m, k = m + 1 := ⟨k - 1, by omega⟩
    refine ⟨a, ?_, ?_⟩
    · simp only [spec_l7No.l0]; rw [if_neg (by omega)]
    · simp only [impl_cellNo.l0]; rw [hw, if_neg (by omega)]
  | succ d ih =>
    intro k a l h1 h2 hd hk
    obtain ⟨k, rfl⟩ : ∃ m, k = m + 1 := ⟨k - 1, by omega⟩
    by_cases hl : l < t - f
    · have hw2 : wrap64 (l + 1) = l + 1 := by unfold wrap64; omega
      obtain ⟨r, hr, hr'⟩ := ih k (wrap64 (a + wrap64 (wrap64 (n - l) + 1))) (l + 1) (by omega) (by omega) (by omega) (by omega)
      refine ⟨r, ?_, ?_⟩
      · simp only [spec_l7No.l0]; rw [if_pos hl, hw2]; exact hr
      · simp only [impl_cellNo.l0]; rw [hw, if_pos hl, hw2]; exact hr'
    · refine ⟨a, ?_, ?_⟩
      · simp only [spec_l7No.l0]; rw [if_neg hl]
      · simp only [impl_cellNo.l0]; rw [hw, if_neg hl]
end CellNo

theorem FnExactCellNo : laws_FnExactCellNo.Pure := by
  intro n f t _ _ _
  refine ⟨12, ?_⟩
  unfold laws_FnExactCellNo.f spec_CellNo.f impl_CellNo.f spec_l7Span.f impl_isCell.f
  simp only [CellNo.sIn, CellNo.iIn, Option.bind_some]
  by_cases hn : 0 ≤ n ∧ n ≤ 10
  · have h1 : wrap64 (n - 1) = n - 1 := by unfold wrap64; omega
    rw [h1]
    by_cases hf : 0 ≤ f ∧ f ≤ n - 1
    · have h2 : wrap64 (f + 1) = f + 1 := by unfold wrap64; omega
      rw [h2]
      by_cases ht : f + 1 ≤ t ∧ t ≤ n
      · have h3 : wrap64 (t - 1) = t - 1 := by unfold wrap64; omega
        have h4 : 1 ≤ t ∧ t ≤ n := by omega
        have h5 : 0 ≤ f ∧ f ≤ t - 1 := by omega
        have h6 : wrap64 (t - f) = t - f := by unfold wrap64; omega
        obtain ⟨r, hr, hr'⟩ := CellNo.loops n f t (by omega) (by omega) (by omega) (by omega) 10 12 f 1 (by omega) (by omega) (by omega) (by omega)
        unfold spec_l7No.f impl_cellNo.f
        rw [h3, decide_eq_true hn, decide_eq_true hf, decide_eq_true ht, decide_eq_true h4, decide_eq_true h5, h6, hr, hr']; simp
      · by_cases h4 : 1 ≤ t ∧ t ≤ n
        · have h3 : wrap64 (t - 1) = t - 1 := by unfold wrap64; omega
          have h5 : ¬ (0 ≤ f ∧ f ≤ t - 1) := by omega
          rw [h3, decide_eq_true hn, decide_eq_true hf, decide_eq_false ht, decide_eq_true h4, decide_eq_false h5]; rfl
        · rw [decide_eq_true hn, decide_eq_true hf, decide_eq_false ht, decide_eq_false h4]; rfl
    · by_cases h4 : 1 ≤ t ∧ t ≤ n
      · have h3 : wrap64 (t - 1) = t - 1 := by unfold wrap64; omega
        have h5 : ¬ (0 ≤ f ∧ f ≤ t - 1) := by omega
        rw [h3, decide_eq_true hn, decide_eq_false hf, decide_eq_true h4, decide_eq_false h5]; rfl
      · rw [decide_eq_true hn, decide_eq_false hf, decide_eq_false h4]; rfl
  · rw [decide_eq_false hn]; rfl

end Go.Proofs.Ythaadpjfimajjaa.Pure
