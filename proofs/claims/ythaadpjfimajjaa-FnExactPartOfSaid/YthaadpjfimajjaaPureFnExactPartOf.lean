/- Proved: for all arguments PartOf of the program returns what PartOf of the reference returns, in memory that it shares with nothing. No condition. -/
import Derived.Test.YthaadpjfimajjaaPFnExactPartOfx2
namespace Go.Proofs.Ythaadpjfimajjaa.Pure
open Go.RowKit Go.Proofs.Ythaadpjfimajjaa.PFnExactPartOf Go.Proofs.YthaadpjfimajjaaW.PrintWords Go.Proofs.YthaadpjfimajjaaW.PrintLast

namespace PartOf
theorem sIn (a b c : Int) : spec_l1In.f a b c = some (decide (b ≤ a ∧ a ≤ c)) := by
  unfold spec_l1In.f
  by_cases h : a ≥ b
  · rw [if_pos h]; congr 2; simp; omega
  · rw [if_neg h]; simp; omega
theorem iIn (a b c : Int) : impl_in.f a b c = some (decide (b ≤ a ∧ a ≤ c)) := by
  unfold impl_in.f
  by_cases h : a ≥ b
  · rw [if_pos h]; congr 2; simp; omega
  · rw [if_neg h]; simp; omega

/-- n, n + 1, ..: m numbers. -/
def ramp (n : Int) : Nat → List Int
  | 0 => []
  | m + 1 => ramp n m ++ [n + m]
theorem ramp_len (n : Int) (m : Nat) : (ramp n m).length = m := by
  induction m with
  | zero => rfl
  | succ m ih => simp [ramp, ih]
theorem ramp_get (n : Int) (m i : Nat) (h : i < m) : (ramp n m).getD i 0 = n + i := by
  induction m with
  | zero => omega
  | succ m ih =>
    simp only [ramp, List.getD_eq_getElem?_getD]
    by_cases e : i < m
    · rw [List.getElem?_append_left (by rw [ramp_len]; exact e), ← List.getD_eq_getElem?_getD]; exact ih e
    · obtain rfl : i = m := by omega
      rw [List.getElem?_append_right (by rw [ramp_len]; omega)]; simp [ramp_len]

theorem eq_self (l : List Int) (hl : l.length ≤ 1000000000) (d : Nat) : ∀ (k i : Nat), i ≤ l.length → l.length - i = d → d < k →
    laws_eqIntS.l0 k l l i = some true := by
  induction d with
  | zero =>
    intro k i h1 hd hk
    obtain ⟨k, rfl⟩ : ∃ m, k = m + 1 := ⟨k - 1, by omega⟩
    simp only [laws_eqIntS.l0]; rw [if_neg (by omega)]
  | succ d ih =>
    intro k i h1 hd hk
    obtain ⟨k, rfl⟩ : ∃ m, k = m + 1 := ⟨k - 1, by omega⟩
    simp only [laws_eqIntS.l0]
    rw [if_pos (by omega), if_pos (by omega), if_pos (by omega), if_pos trivial]
    have : wrap64 ((i : Int) + 1) = ((i + 1 : Nat) : Int) := by unfold wrap64; omega
    rw [this]
    exact ih k (i + 1) (by omega) (by omega) (by omega)
theorem eq_ok (l : List Int) (hl : l.length ≤ 1000000000) (k : Nat) (hk : l.length < k) : laws_eqIntS.f k l l = some true := by
  unfold laws_eqIntS.f
  rw [if_pos rfl]
  exact eq_self l hl l.length k 0 (by omega) (by omega) hk

theorem mark_loop (l : List Int) (hl : l.length ≤ 1000000000) (n : Int) (hn : 0 ≤ n) (hn' : n ≤ 1000000000) (d : Nat) : ∀ (k i : Nat), i ≤ l.length → l.length - i = d → d < k →
    laws_markIntS.l0 k (ramp n i ++ l.drop i) (n + i) i = some (n + l.length, ramp n l.length) := by
  induction d with
  | zero =>
    intro k i h1 hd hk
    obtain ⟨k, rfl⟩ : ∃ m, k = m + 1 := ⟨k - 1, by omega⟩
    obtain rfl : i = l.length := by omega
    simp only [laws_markIntS.l0]
    rw [if_neg (by simp [ramp_len])]
    simp
  | succ d ih =>
    intro k i h1 hd hk
    obtain ⟨k, rfl⟩ : ∃ m, k = m + 1 := ⟨k - 1, by omega⟩
    simp only [laws_markIntS.l0]
    rw [if_pos (by simp [ramp_len]; omega), if_pos (by omega)]
    have e1 : wrap64 ((i : Int) + 1) = ((i + 1 : Nat) : Int) := by unfold wrap64; omega
    have e2 : wrap64 (n + (i : Int) + 1) = n + ((i + 1 : Nat) : Int) := by unfold wrap64; omega
    have e3 : (ramp n i ++ l.drop i).set (i : Int).toNat (n + i) = ramp n (i + 1) ++ l.drop (i + 1) := by
      rw [List.drop_eq_getElem_cons (show i < l.length by omega)]
      have e : (i : Int).toNat = (ramp n i).length := by rw [ramp_len]; rfl
      rw [e, List.set_append_right _ _ (Nat.le_refl _), Nat.sub_self, List.set_cons_zero]
      simp [ramp]
    rw [e1, e2, e3]
    exact ih k (i + 1) (by omega) (by omega) (by omega)
theorem mark_ok (l : List Int) (hl : l.length ≤ 1000000000) (k : Nat) (hk : l.length < k) : laws_markIntS.f k l 1 = some (1 + (l.length : Int), ramp 1 l.length) := by
  have := mark_loop l hl 1 (by omega) (by omega) l.length k 0 (by omega) (by omega) hk
  unfold laws_markIntS.f
  simpa [ramp] using this

theorem held_loop (m : Nat) (hm : m ≤ 1000000000) (n : Int) (hn : 0 ≤ n) (hn' : n ≤ 1000000000) (d : Nat) : ∀ (k i : Nat), i ≤ m → m - i = d → d < k →
    laws_heldIntS.l0 k (ramp n m) (n + i) i = some (n + m) := by
  induction d with
  | zero =>
    intro k i h1 hd hk
    obtain ⟨k, rfl⟩ : ∃ m, k = m + 1 := ⟨k - 1, by omega⟩
    obtain rfl : i = m := by omega
    simp only [laws_heldIntS.l0]
    rw [if_neg (by simp [ramp_len])]
  | succ d ih =>
    intro k i h1 hd hk
    obtain ⟨k, rfl⟩ : ∃ m, k = m + 1 := ⟨k - 1, by omega⟩
    simp only [laws_heldIntS.l0]
    rw [if_pos (by simp [ramp_len]; omega), if_pos (by omega), if_pos (by unfold rd; simpa using ramp_get n m i (by omega))]
    have e1 : wrap64 ((i : Int) + 1) = ((i + 1 : Nat) : Int) := by unfold wrap64; omega
    have e2 : wrap64 (n + (i : Int) + 1) = n + ((i + 1 : Nat) : Int) := by unfold wrap64; omega
    rw [e1, e2]
    exact ih k (i + 1) (by omega) (by omega) (by omega)
theorem held_ok (m : Nat) (hm : m ≤ 1000000000) (k : Nat) (hk : m < k) : laws_heldIntS.f k (ramp 1 m) 1 = some (1 + (m : Int)) := by
  have := held_loop m hm 1 (by omega) (by omega) m k 0 (by omega) (by omega) hk
  unfold laws_heldIntS.f
  simpa using this

theorem loops (n hands long : Int) (hn : 0 ≤ n) (hn' : n ≤ 10) (hh : 1 ≤ hands) (hh' : hands ≤ 4) (hl : 1 ≤ long) (hl' : long ≤ n) (d : Nat) :
    ∀ (k : Nat) (out : List Int) (f : Int), 0 ≤ f → f ≤ 20 → out.length + d ≤ 30 → n - f ≤ d → d < k →
      ∃ r : List Int, r.length ≤ 30 ∧ spec_l8Part.l0 k n hands long out f = some r ∧ impl_PartOf.l0 k n hands long out f = some (r, true) := by
  induction d with
  | zero =>
    intro k out f h1 h2 ho hd hk
    obtain ⟨k, rfl⟩ : ∃ m, k = m + 1 := ⟨k - 1, by omega⟩
    refine ⟨out, by omega, ?_, ?_⟩
    · simp only [spec_l8Part.l0]; rw [if_neg (by unfold wrap64; omega)]
    · simp only [impl_PartOf.l0]; rw [if_neg (by unfold wrap64; omega)]
  | succ d ih =>
    intro k out f h1 h2 ho hd hk
    obtain ⟨k, rfl⟩ : ∃ m, k = m + 1 := ⟨k - 1, by omega⟩
    by_cases hc : f + long ≤ n
    · have hw : wrap64 (f + hands) = f + hands := by unfold wrap64; omega
      obtain ⟨r, h3, hr, hr'⟩ := ih k (out ++ [f]) (f + hands) (by omega) (by omega) (by simp; omega) (by omega) (by omega)
      refine ⟨r, h3, ?_, ?_⟩
      · simp only [spec_l8Part.l0]; rw [if_pos (by unfold wrap64; omega), if_pos (by omega), hw]; exact hr
      · simp only [impl_PartOf.l0]; rw [if_pos (by unfold wrap64; omega), if_pos (by omega), hw]; exact hr'
    · refine ⟨out, by omega, ?_, ?_⟩
      · simp only [spec_l8Part.l0]; rw [if_neg (by unfold wrap64; omega)]
      · simp only [impl_PartOf.l0]; rw [if_neg (by unfold wrap64; omega)]

/-- What is left of the law once both calls are known to answer alike. -/
theorem law (n hands hand long : Int) (r : List Int) (b : Bool) (hr : r.length ≤ 30) (hs : spec_PartOf.f 40 n hands hand long = some (r, b))
    (hi : ∀ k, 35 ≤ k → impl_PartOf.f k n hands hand long = some (r, b)) : laws_FnExactPartOf.f 40 n hands hand long = some true := by
  unfold laws_FnExactPartOf.f
  rw [hs]; simp only [Option.bind_some]
  rw [hi 40 (by omega)]; simp only [Option.bind_some]
  rw [eq_ok r (by omega) 40 (by omega)]; simp only [Option.bind_some, if_true]
  show laws_FnExactPartOf.j0 (39 + 1) n hands hand long r b r (b != b) = some true
  simp only [laws_FnExactPartOf.j0, bne_self_eq_false]
  rw [if_neg (by decide), mark_ok r (by omega) 39 (by omega)]; simp only [Option.bind_some]
  rw [held_ok r.length (by omega) 39 (by omega)]; simp only [Option.bind_some]
  rw [if_neg (by omega), if_pos trivial, hi 39 (by omega)]; simp only [Option.bind_some]
  rw [eq_ok r (by omega) 39 (by omega)]; simp only [Option.bind_some, if_true]
  show laws_FnExactPartOf.j1 (38 + 1) _ _ (b != b) = some true
  simp only [laws_FnExactPartOf.j1, bne_self_eq_false]
  rw [if_neg (by decide), held_ok r.length (by omega) 38 (by omega)]; simp only [Option.bind_some]
  rw [if_neg (by omega), if_pos trivial]
end PartOf
open PartOf in
theorem FnExactPartOf : laws_FnExactPartOf.Pure := by
  intro n hands hand long _ _ _ _
  refine ⟨40, ?_⟩
  by_cases hn : (0 ≤ n ∧ n ≤ 10) ∧ 1 ≤ hands ∧ hands ≤ 4
  · obtain ⟨hn, hh⟩ := hn
    have hw : wrap64 (hands - 1) = hands - 1 := by unfold wrap64; omega
    by_cases hd : 0 ≤ hand ∧ hand ≤ hands - 1
    · by_cases hl : 1 ≤ long ∧ long ≤ n
      · have key := fun k (hk : 34 ≤ k) => PartOf.loops n hands long hn.1 hn.2 hh.1 hh.2 hl.1 hl.2 29 k [] hand (by omega) (by omega) (by simp) (by omega) (by omega)
        obtain ⟨r, h3, hr, hr'⟩ := key 40 (by omega)
        obtain ⟨r4, h4, hr4, hr4'⟩ := key 34 (by omega)
        refine law n hands hand long r true h3 ?_ (fun k hk => ?_)
        · unfold spec_PartOf.f spec_l8Hands.f spec_l8Part.f
          simp [sIn, hn, hh, hw, hd, hl, hr]
        · obtain ⟨k, rfl⟩ : ∃ m, k = m + 1 := ⟨k - 1, by omega⟩
          unfold impl_PartOf.f
          simp only [iIn, hn, hh, hw, hd, hl, Option.bind_some, decide_true, and_self, if_true, Bool.not_true, impl_PartOf.j0]
          rw [if_neg (by decide)]
          obtain ⟨r5, h5, hr5, hr5'⟩ := key k (by omega)
          have : r5 = r := by
            have hm : ∀ j k, LeO (spec_l8Part.l0 k n hands long [] hand) (spec_l8Part.l0 (k + j) n hands long [] hand) := by
              intro j
              induction j with
              | zero => exact fun k _ h => h
              | succ j ih => exact fun k r h => (spec_l8Part.mono_l (k + j)) _ _ _ _ _ r (ih k r h)
            have e1 := hm 40 k r5 hr5
            have e2 := hm k 40 r hr
            rw [Nat.add_comm] at e2
            exact Option.some.inj (e1.symm.trans e2)
          rw [← this]
          exact hr5'
      · refine law n hands hand long [] false (by simp) ?_ (fun k hk => ?_)
        · unfold spec_PartOf.f spec_l8Hands.f
          simp [sIn, hn, hh, hw, hd, hl]
        · obtain ⟨k, rfl⟩ : ∃ m, k = m + 1 := ⟨k - 1, by omega⟩
          unfold impl_PartOf.f
          simp [iIn, hn, hh, hw, hd, hl, impl_PartOf.j0]
    · refine law n hands hand long [] false (by simp) ?_ (fun k hk => ?_)
      · unfold spec_PartOf.f spec_l8Hands.f
        simp [sIn, hn, hh, hw, hd]
      · obtain ⟨k, rfl⟩ : ∃ m, k = m + 1 := ⟨k - 1, by omega⟩
        unfold impl_PartOf.f
        simp [iIn, hn, hh, hw, hd, impl_PartOf.j0]
  · refine law n hands hand long [] false (by simp) ?_ (fun k hk => ?_)
    · unfold spec_PartOf.f spec_l8Hands.f
      by_cases h1 : 0 ≤ n ∧ n ≤ 10
      · have h2 : ¬ (1 ≤ hands ∧ hands ≤ 4) := fun h => hn ⟨h1, h⟩
        simp [sIn, h1, h2]
      · simp [sIn, h1]
    · obtain ⟨k, rfl⟩ : ∃ m, k = m + 1 := ⟨k - 1, by omega⟩
      unfold impl_PartOf.f
      by_cases h1 : 0 ≤ n ∧ n ≤ 10
      · have h2 : ¬ (1 ≤ hands ∧ hands ≤ 4) := fun h => hn ⟨h1, h⟩
        simp [iIn, h1, h2, impl_PartOf.j0]
      · simp [iIn, h1, impl_PartOf.j0]

end Go.Proofs.Ythaadpjfimajjaa.Pure
