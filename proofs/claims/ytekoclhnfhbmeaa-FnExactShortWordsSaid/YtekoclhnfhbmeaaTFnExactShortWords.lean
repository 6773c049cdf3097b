/- Proved: for all arguments ShortWords of the program returns what ShortWords of the reference returns; it leaves its arguments as they were, and shares no memory. No condition. -/
import Derived.Test.YtekoclhnfhbmeaaTFnExactShortWordsp3
import Derived.Test.YtekoclhnfhbmeaaTFnExactShortWordsp1
import Derived.Test.YtekoclhnfhbmeaaTFnExactShortWordsp0
import Derived.DataReads
import Derived.Deep.Slices
import Derived.OpenShut
import Derived.Test.YtekoclhnfhbmeaaRows
import Derived.WalkKit
import Derived.ProofKit
import Derived.ShutString
import Derived.ChangeOld
import Derived.Below
import Derived.SizedLaws
namespace Go.Proofs.Ytekoclhnfhbmeaa.P
open Go.RowKit Go.Proofs.YtekoclhnfhbmeaaW.PrintWords
set_option linter.unusedVariables false
set_option linter.unusedSimpArgs false
def nextR (T : Nat) (w : List Int) : List (List Int) := (List.range T).map fun t : Nat => w ++ [(t : Int)]
def nextW (T : Nat) (ls : List (List Int)) : List (List Int) := ls.flatMap (nextR T)
def wordsL (T : Nat) : Nat → List (List Int)
 | 0 => [[]]
 | n + 1 => nextW T (wordsL T n)
theorem nextW_len (T : Nat) (ls : List (List Int)) : (nextW T ls).length = ls.length * T := by
 unfold nextW
 induction ls with
 | nil => simp
 | cons w ls ih =>
  rw [List.flatMap_cons, List.length_append, ih, List.length_cons, Nat.succ_mul]; unfold nextR; rw [List.length_map, List.length_range]; omega
theorem wordsL_card (T : Nat) (hT : T ≤ 4) : ∀ n, (wordsL T n).length ≤ 4 ^ n
 | 0 => by simp [wordsL]
 | n + 1 => by
  have ih := wordsL_card T hT n; show (nextW T (wordsL T n)).length ≤ _; rw [nextW_len, Nat.pow_succ]; exact Nat.mul_le_mul ih hT
theorem pow_four (n : Nat) (h : n ≤ 4) : 4 ^ n ≤ 256 := by
 match n, h with
 | 0, _ => decide
 | 1, _ => decide
 | 2, _ => decide
 | 3, _ => decide
 | 4, _ => decide
 | n + 5, h => omega
theorem wordsL_ok (T : Nat) (hT : T ≤ 4) : ∀ n x, x ∈ wordsL T n → x.length = n ∧ ∀ y, y ∈ x → 0 ≤ y ∧ y ≤ 3
 | 0, x, h => by
  simp [wordsL] at h; subst h; exact ⟨rfl, fun y hy => (List.not_mem_nil hy).elim⟩
 | n + 1, x, h => by
  obtain ⟨w, hw, hx⟩ := List.mem_flatMap.1 h; obtain ⟨t, ht, rfl⟩ := List.mem_map.1 hx; obtain ⟨h1, h2⟩ := wordsL_ok T hT n w hw; have h3 := List.mem_range.1 ht; refine ⟨by rw [List.length_append, h1]; rfl, fun y hy => ?_⟩; rcases List.mem_append.1 hy with h | h
  · exact h2 y h
  · rw [List.mem_singleton.1 h]; omega
theorem rd_mem_of {l : List Int} {j : Nat} (hj : j < l.length) : rd l j ∈ l := by
 unfold rd; rw [Int.toNat_natCast, List.getD_eq_getElem?_getD, List.getElem?_eq_getElem hj]; exact List.getElem_mem hj
theorem range_drop {T i : Nat} (h : i < T) : (List.range T).drop i = i :: (List.range T).drop (i + 1) := by
 rw [List.drop_eq_getElem_cons (by rw [List.length_range]; exact h), List.getElem_range]
def restR (T : Nat) (w : List Int) (i : Nat) : List (List Int) := ((List.range T).drop i).map fun t : Nat => w ++ [(t : Int)]
theorem restR_step {T i : Nat} (w : List Int) (h : i < T) : restR T w i = (w ++ [(i : Int)]) :: restR T w (i + 1) := by
 unfold restR; rw [range_drop h]; rfl
theorem restR_end (T : Nat) (w : List Int) (i : Nat) (h : T ≤ i) : restR T w i = [] := by
 unfold restR; rw [List.drop_of_length_le (by rw [List.length_range]; exact h)]; rfl
theorem nextW_drop {T : Nat} {ws : List (List Int)} {i : Nat} (h : i < ws.length) : nextW T (ws.drop i) = restR T (rd_L1 ws i) 0 ++ nextW T (ws.drop (i + 1)) := by
 rw [show ws.drop i = rd_L1 ws i :: ws.drop (i + 1) from getD_drop ws i [] h]; unfold nextW; rw [List.flatMap_cons]; rfl
theorem rd_in_of {ws : List (List Int)} {i : Nat} (h : i < ws.length) : rd_L1 ws i ∈ ws := by
 unfold rd_L1; rw [Int.toNat_natCast, List.getD_eq_getElem?_getD, List.getElem?_eq_getElem h]; exact List.getElem_mem h
theorem wo_l2 (T : Nat) (hT : T ≤ 4) (w : List Int) (hw : w.length ≤ 100) (long i0 : Int) (ws : List (List Int)) (len idx : Int) (R : List (List Int)) (d : Nat) : ∀ (i : Nat) (next : List (List Int)), i ≤ T → T - i = d → next.length + 4 ≤ 100000 + i →
 Ev (fun k => impl_wordsOf.l1 k (T : Int) (next ++ restR T w i) long i0 ws len (wrap64 (idx + 1))) R → Ev (fun k => impl_wordsOf.l2 k (T : Int) next w long i0 ws len idx (T : Int) (i : Int)) R := by
 induction d with
 | zero =>
  intro i next h1 hd hn ⟨K, h⟩; dsimp only at h; rw [restR_end T w i (by omega), List.append_nil] at h; refine ⟨K + 1, fun k hk => ?_⟩; dsimp only; obtain ⟨k, rfl⟩ : ∃ m, k = m + 1 := ⟨k - 1, by omega⟩
  simp only [impl_wordsOf.l2]; rw [if_neg (by omega)]; exact h k (by omega)
 | succ d ih =>
  intro i next h1 hd hn hR; obtain ⟨K, h⟩ := ih (i + 1) (next ++ [w ++ [(i : Int)]]) (by omega) (by omega) (by rw [List.length_append, List.length_singleton]; omega) (by
   rw [restR_step w (by omega)] at hR; rw [List.append_assoc]; exact hR)
  dsimp only at h; refine ⟨K + 1, fun k hk => ?_⟩; dsimp only; obtain ⟨k, rfl⟩ : ∃ m, k = m + 1 := ⟨k - 1, by omega⟩
  simp only [impl_wordsOf.l2]; rw [if_pos (by omega)]; simp only [Option.bind_some, List.nil_append, List.length_nil]; rw [if_pos (by omega)]; (try simp only [Option.bind_some]); rw [if_pos (by omega), if_pos (by omega), wsw i (by omega)]; exact h k (by omega)
theorem wo_l1 (T : Nat) (hT : T ≤ 4) (long i0 : Int) (ws : List (List Int)) (hws : ws.length ≤ 256) (hwl : ∀ x, x ∈ ws → x.length ≤ 100) (R : List (List Int)) (d : Nat) : ∀ (i : Nat) (next : List (List Int)), i ≤ ws.length → ws.length - i = d → next.length ≤ 4 * i →
 Ev (fun k => impl_wordsOf.l0 k (T : Int) (next ++ nextW T (ws.drop i)) long (wrap64 (i0 + 1))) R → Ev (fun k => impl_wordsOf.l1 k (T : Int) next long i0 ws (ws.length : Int) (i : Int)) R := by
 induction d with
 | zero =>
  intro i next h1 hd hn ⟨K, h⟩; dsimp only at h; rw [List.drop_of_length_le (by omega)] at h; unfold nextW at h; rw [List.flatMap_nil, List.append_nil] at h; refine ⟨K + 1, fun k hk => ?_⟩; dsimp only; obtain ⟨k, rfl⟩ : ∃ m, k = m + 1 := ⟨k - 1, by omega⟩
  simp only [impl_wordsOf.l1]; rw [if_neg (by omega)]; exact h k (by omega)
 | succ d ih =>
  intro i next h1 hd hn hR; have hil : i < ws.length := by omega
  have hlen : (restR T (rd_L1 ws i) 0).length = T := by unfold restR; rw [List.drop_zero, List.length_map, List.length_range]
  have hB : Ev (fun k => impl_wordsOf.l1 k (T : Int) (next ++ restR T (rd_L1 ws i) 0) long i0 ws (ws.length : Int) (wrap64 ((i : Int) + 1))) R := by
   rw [wsw i (by omega)]; refine ih (i + 1) _ (by omega) (by omega) (by rw [List.length_append, hlen]; omega) ?_; rw [nextW_drop hil] at hR; rw [List.append_assoc]; exact hR
  obtain ⟨K, h⟩ := wo_l2 T hT (rd_L1 ws i) (hwl _ (rd_in_of hil)) long i0 ws (ws.length : Int) (i : Int) R T 0 next (by omega) (by omega) (by omega) hB; dsimp only at h; refine ⟨K + 1, fun k hk => ?_⟩; dsimp only; obtain ⟨k, rfl⟩ : ∃ m, k = m + 1 := ⟨k - 1, by omega⟩
  simp only [impl_wordsOf.l1]; rw [if_pos (by omega), if_pos (by omega), if_pos (by omega)]; exact h k (by omega)
theorem wo_l0 (T : Nat) (hT : T ≤ 4) (long : Nat) (hl : long ≤ 4) (d : Nat) : ∀ (i : Nat), i ≤ long → long - i = d → Ev (fun k => impl_wordsOf.l0 k (T : Int) (wordsL T i) (long : Int) (i : Int)) (wordsL T long) := by
 induction d with
 | zero =>
  intro i h1 hd; obtain rfl : i = long := by omega
  refine ⟨1, fun k hk => ?_⟩; dsimp only; obtain ⟨k, rfl⟩ : ∃ m, k = m + 1 := ⟨k - 1, by omega⟩
  simp only [impl_wordsOf.l0]; rw [if_neg (by omega)]
 | succ d ih =>
  intro i h1 hd; have hc := wordsL_card T hT i; have hp := pow_four i (by omega); obtain ⟨K, h⟩ := wo_l1 T hT (long : Int) (i : Int) (wordsL T i) (by omega) (fun x hx => by have := (wordsL_ok T hT i x hx).1; omega) (wordsL T long) (wordsL T i).length 0 [] (by omega) (by omega) (by simp) (by
   rw [wsw i (by omega), List.drop_zero, List.nil_append]; exact ih (i + 1) (by omega) (by omega))
  dsimp only at h; refine ⟨K + 1, fun k hk => ?_⟩; dsimp only; obtain ⟨k, rfl⟩ : ∃ m, k = m + 1 := ⟨k - 1, by omega⟩
  simp only [impl_wordsOf.l0]; rw [if_pos (by omega)]; exact h k (by omega)
theorem wordsOf_ev (T : Nat) (hT : T ≤ 4) (long : Nat) (hl : long ≤ 4) : Ev (fun k => impl_wordsOf.f k (T : Int) (long : Int)) (wordsL T long) := wo_l0 T hT long hl long 0 (by omega) (by omega)
def lev (T : Nat) (l : List S87) : Nat → Nat → List (List Int)
 | 0, _ => []
 | d + 1, n => (wordsL T n).filter (inW l) ++ lev T l d (n + 1)
theorem swF_ev (T : Nat) (hT : T ≤ 4) (l : List S87) (d : Nat) : ∀ (n : Nat) (out : List (List Int)), n + d ≤ 5 → out.length ≤ 256 * n → Ev (fun k => swF k (T : Int) l d n out) (out ++ lev T l d n) := by
 induction d with
 | zero => intro n out h1 h2; exact ⟨0, fun k hk => by simp [swF, lev]⟩
 | succ d ih =>
  intro n out h1 h2; have hc := wordsL_card T hT n; have hp := pow_four n (by omega); have hfl := List.length_filter_le (inW l) (wordsL T n); obtain ⟨K, h⟩ := ih (n + 1) (out ++ (wordsL T n).filter (inW l)) (by omega) (by rw [List.length_append]; omega); obtain ⟨K2, h2e⟩ := wordsOf_ev T hT n (by omega); dsimp only at h h2e; refine ⟨K + K2, fun k hk => ?_⟩; dsimp only; simp only [swF]; rw [h2e k (by omega)]; simp only [Option.bind_some]; rw [if_pos ⟨fun x hx => ⟨(wordsL_ok T hT n x hx).1, fun j hj => (wordsL_ok T hT n x hx).2 _ (rd_mem_of hj)⟩, by omega, by omega⟩, h k (by omega)]; simp only [lev, List.append_assoc]
theorem own_eqS (l : List Int) (hl : l.length < 17592186044416) : spec_l1Own.f l = some l := by
 unfold spec_l1Own.f; simp only [Option.bind_some, List.length_nil, List.nil_append]; rw [if_pos (by omega)]
theorem sw_l2 (T : Nat) (hT : T ≤ 4) (a0 a1 : Int) (l : List S87) (w : List Int) (hw : w.length ≤ 100) (out : List (List Int)) (n : Int) (ws : List (List Int)) (len idx : Int) (R : List (List Int) × Bool) (d : Nat) : ∀ (i : Nat) (next : List (List Int)), i ≤ T → T - i = d → next.length + 4 ≤ 100000 + i →
 Ev (fun k => spec_ShortWords.l1 k a1 out n (next ++ restR T w i) ws len (wrap64 (idx + 1)) a0 (T : Int) l) R → Ev (fun k => spec_ShortWords.l2 k a1 out n next w (i : Int) ws len idx a0 (T : Int) l) R := by
 induction d with
 | zero =>
  intro i next h1 hd hn ⟨K, h⟩; dsimp only at h; rw [restR_end T w i (by omega), List.append_nil] at h; refine ⟨K + 1, fun k hk => ?_⟩; dsimp only; obtain ⟨k, rfl⟩ : ∃ m, k = m + 1 := ⟨k - 1, by omega⟩
  simp only [spec_ShortWords.l2]; rw [if_neg (by omega)]; exact h k (by omega)
 | succ d ih =>
  intro i next h1 hd hn hR; obtain ⟨K, h⟩ := ih (i + 1) (next ++ [w ++ [(i : Int)]]) (by omega) (by omega) (by rw [List.length_append, List.length_singleton]; omega) (by
   rw [restR_step w (by omega)] at hR; rw [List.append_assoc]; exact hR)
  dsimp only at h; refine ⟨K + 1, fun k hk => ?_⟩; dsimp only; obtain ⟨k, rfl⟩ : ∃ m, k = m + 1 := ⟨k - 1, by omega⟩
  simp only [spec_ShortWords.l2]; rw [if_pos (by omega), own_eqS w (by omega)]; simp only [Option.bind_some]; rw [if_pos (by omega), if_pos (by omega), wsw i (by omega)]; exact h k (by omega)
theorem sw_l1 (T : Nat) (hT : T ≤ 4) (m : Nat) (hm1 : 1 ≤ m) (hm6 : m ≤ 6) (a1 : Int) (l : List S87) (hl16 : l.length ≤ 16) (hok : ∀ j : Nat, j < l.length → okT m (rd_T87 l j)) (n : Int) (ws : List (List Int)) (hws : ws.length ≤ 256) (hwl : ∀ x, x ∈ ws → x.length ≤ 10) (R : List (List Int) × Bool) (d : Nat) : ∀ (i : Nat) (out next : List (List Int)), i ≤ ws.length → ws.length - i = d → next.length ≤ 4 * i → out.length ≤ 100000 + i →
 Ev (fun k => spec_ShortWords.l0 k a1 (out ++ (ws.drop i).filter (inW l)) (next ++ nextW T (ws.drop i)) (wrap64 (n + 1)) (m : Int) (T : Int) l) R → Ev (fun k => spec_ShortWords.l1 k a1 out n next ws (ws.length : Int) (i : Int) (m : Int) (T : Int) l) R := by
 induction d with
 | zero =>
  intro i out next h1 hd hn ho ⟨K, h⟩; dsimp only at h; rw [List.drop_of_length_le (by omega)] at h; unfold nextW at h; rw [List.flatMap_nil, List.append_nil, List.filter_nil, List.append_nil] at h; refine ⟨K + 1, fun k hk => ?_⟩; dsimp only; obtain ⟨k, rfl⟩ : ∃ m, k = m + 1 := ⟨k - 1, by omega⟩
  simp only [spec_ShortWords.l1]; rw [if_neg (by omega)]; exact h k (by omega)
 | succ d ih =>
  intro i out next h1 hd hn ho hR; have hil : i < ws.length := by omega
  have hw10 := hwl _ (rd_in_of hil); have hlen : (restR T (rd_L1 ws i) 0).length = T := by unfold restR; rw [List.drop_zero, List.length_map, List.length_range]
  obtain ⟨K2, h2⟩ := l4In_ev m hm1 hm6 (rd_L1 ws i) hw10 l hl16 hok (T : Int) 0 hm1; dsimp only at h2; rw [nextW_drop hil, show ws.drop i = rd_L1 ws i :: ws.drop (i + 1) from getD_drop ws i [] hil] at hR; have hgo : ∀ out2 : List (List Int), out2.length ≤ 100000 + (i + 1) → Ev (fun k => spec_ShortWords.l0 k a1 (out2 ++ (ws.drop (i + 1)).filter (inW l)) (next ++ (restR T (rd_L1 ws i) 0 ++ nextW T (ws.drop (i + 1)))) (wrap64 (n + 1)) (m : Int) (T : Int) l) R →
   Ev (fun k => spec_ShortWords.l2 k a1 out2 n next (rd_L1 ws i) ((0 : Nat) : Int) ws (ws.length : Int) (i : Int) (m : Int) (T : Int) l) R := by
   intro out2 ho2 hR2; refine sw_l2 T hT (m : Int) a1 l (rd_L1 ws i) (by omega) out2 n ws (ws.length : Int) (i : Int) R T 0 next (by omega) (by omega) (by omega) ?_; rw [wsw i (by omega)]; refine ih (i + 1) out2 _ (by omega) (by omega) (by rw [List.length_append, hlen]; omega) ho2 ?_; rw [List.append_assoc]; exact hR2
  have e0 : spec_l4In.f = spec_l4In.f := rfl; cases hin : inW l (rd_L1 ws i) with
  | true =>
   rw [List.filter_cons_of_pos hin] at hR; obtain ⟨K, h⟩ := hgo (out ++ [rd_L1 ws i]) (by rw [List.length_append, List.length_singleton]; omega) (by rw [List.append_assoc]; exact hR); dsimp only at h; refine ⟨K + K2 + 1, fun k hk => ?_⟩; dsimp only; obtain ⟨k, rfl⟩ : ∃ m, k = m + 1 := ⟨k - 1, by omega⟩
   simp only [spec_ShortWords.l1]; have h3 := h2 k (by omega); rw [show ((0 : Nat) : Int) = 0 from rfl, show tat (spansF (rd_L1 ws i) l) 0 0 (rd_L1 ws i).length = true from hin] at h3; rw [if_pos (by omega), if_pos (by omega), if_pos (by omega), h3]; simp only [Option.bind_some]; rw [if_pos trivial, own_eqS _ (by omega)]; simp only [Option.bind_some]; rw [if_pos (by omega)]; exact h k (by omega)
  | false =>
   rw [List.filter_cons_of_neg (by rw [hin]; exact Bool.false_ne_true)] at hR; obtain ⟨K, h⟩ := hgo out (by omega) hR; dsimp only at h; refine ⟨K + K2 + 1, fun k hk => ?_⟩; dsimp only; obtain ⟨k, rfl⟩ : ∃ m, k = m + 1 := ⟨k - 1, by omega⟩
   simp only [spec_ShortWords.l1]; have h3 := h2 k (by omega); rw [show ((0 : Nat) : Int) = 0 from rfl, show tat (spansF (rd_L1 ws i) l) 0 0 (rd_L1 ws i).length = false from hin] at h3; rw [if_pos (by omega), if_pos (by omega), if_pos (by omega), h3]; simp only [Option.bind_some]; rw [if_neg (by decide)]; exact h k (by omega)
theorem sw_l0 (T : Nat) (hT : T ≤ 4) (m : Nat) (hm1 : 1 ≤ m) (hm6 : m ≤ 6) (a : Nat) (ha : a ≤ 4) (l : List S87) (hl16 : l.length ≤ 16) (hok : ∀ j : Nat, j < l.length → okT m (rd_T87 l j)) (d : Nat) : ∀ (n : Nat) (out : List (List Int)), n + d = a + 1 → out.length ≤ 256 * n →
 Ev (fun k => spec_ShortWords.l0 k (a : Int) out (wordsL T n) (n : Int) (m : Int) (T : Int) l) (out ++ lev T l d n, true) := by
 induction d with
 | zero =>
  intro n out h1 ho; refine ⟨1, fun k hk => ?_⟩; dsimp only; obtain ⟨k, rfl⟩ : ∃ m, k = m + 1 := ⟨k - 1, by omega⟩
  simp only [spec_ShortWords.l0]; rw [if_neg (by omega)]; simp [lev]
 | succ d ih =>
  intro n out h1 ho; have hc := wordsL_card T hT n; have hp := pow_four n (by omega); have hfl := List.length_filter_le (inW l) (wordsL T n); obtain ⟨K, h⟩ := sw_l1 T hT m hm1 hm6 (a : Int) l hl16 hok (n : Int) (wordsL T n) (by omega) (fun x hx => by have := (wordsL_ok T hT n x hx).1; omega) (out ++ lev T l (d + 1) n, true) (wordsL T n).length 0 out [] (by omega) (by omega) (by simp) (by omega) (by
   rw [wsw n (by omega), List.drop_zero, List.nil_append]; have := ih (n + 1) (out ++ (wordsL T n).filter (inW l)) (by omega) (by rw [List.length_append]; omega); rw [List.append_assoc] at this; exact this)
  dsimp only at h; refine ⟨K + 1, fun k hk => ?_⟩; dsimp only; obtain ⟨k, rfl⟩ : ∃ m, k = m + 1 := ⟨k - 1, by omega⟩
  simp only [spec_ShortWords.l0]; rw [if_pos (by omega)]; exact h k (by omega)
theorem lev_ok (T : Nat) (hT : T ≤ 4) (l : List S87) : ∀ (d n : Nat), n + d ≤ 5 → (lev T l d n).length ≤ 256 * d ∧ ∀ x, x ∈ lev T l d n → x.length ≤ 4
 | 0, n, h => ⟨by simp [lev], fun x hx => by simp [lev] at hx⟩
 | d + 1, n, h => by
  obtain ⟨i1, i2⟩ := lev_ok T hT l d (n + 1) (by omega); have hc := wordsL_card T hT n; have hp := pow_four n (by omega); have hfl := List.length_filter_le (inW l) (wordsL T n); refine ⟨by simp only [lev, List.length_append]; omega, fun x hx => ?_⟩; simp only [lev] at hx; rcases List.mem_append.1 hx with e | e
  · have := (wordsL_ok T hT n x (List.mem_filter.1 e).1).1; omega
  · exact i2 x e
theorem l1In_sw (a b c : Int) : spec_l1In.f a b c = some (decide (b ≤ a ∧ a ≤ c)) := by
 unfold spec_l1In.f; by_cases h : b ≤ a
 · rw [if_pos (by omega)]; congr 1; simp [h]
 · rw [if_neg (by omega)]; congr 1; simp [h]
theorem pure_ShortWords (n t : Int) (g : List S87) (a1 : Int) (hs : smallI g) :
 ∃ (r0 : List (List Int)) (r1 : Bool), (r0.length ≤ 1280 ∧ ∀ x, x ∈ r0 → x.length ≤ 4) ∧ Ev (fun k => spec_ShortWords.f k n t g a1) (r0, r1) ∧ Ev (fun k => impl_ShortWords.f k n t g a1) (r0, r1) := by
 obtain ⟨K, hG⟩ := spec_GoodGrammar_ev n t g hs; dsimp only at hG; cases hg : goodG n t g with
 | true =>
  obtain ⟨m, rfl⟩ := nat_of_good hg; obtain ⟨h1, h6, h16, hok⟩ := goodG_okT hg; have ht := (goodG_nons hg).2.1; obtain ⟨T, rfl⟩ : ∃ T : Nat, t = (T : Int) := ⟨t.toNat, by omega⟩
  by_cases hr : 0 ≤ a1 ∧ a1 ≤ 4
  · obtain ⟨a, rfl⟩ : ∃ a : Nat, a1 = (a : Int) := ⟨a1.toNat, by omega⟩
    obtain ⟨K2, e2⟩ := sw_l0 T (by omega) m h1 h6 a (by omega) g h16 hok (a + 1) 0 [] (by omega) (by simp); obtain ⟨K3, e3⟩ := swF_ev T (by omega) g (a + 1) 0 [] (by omega) (by simp); obtain ⟨b1, b2⟩ := lev_ok T (by omega) g (a + 1) 0 (by omega); dsimp only at e2 e3; rw [List.nil_append] at e2 e3; refine ⟨lev T g (a + 1) 0, true, ⟨by omega, b2⟩, ⟨K + K2, fun k hk => ?_⟩, ⟨K3, fun k hk => ?_⟩⟩
    · dsimp only; unfold spec_ShortWords.f; rw [hG k (by omega), hg]; simp only [Option.bind_some]; rw [if_pos trivial, l1In_sw, decide_eq_true hr]; simp only [Option.bind_some]; rw [if_pos trivial]; exact e2 k (by omega)
    · dsimp only; unfold impl_ShortWords.f; rw [if_pos hg, if_pos hr, Int.toNat_natCast, e3 k hk]; rfl
  · refine ⟨[], false, ⟨by simp, fun x hx => by simp at hx⟩, ⟨K, fun k hk => ?_⟩, ⟨0, fun k hk => ?_⟩⟩
    · dsimp only; unfold spec_ShortWords.f; rw [hG k (by omega), hg]; simp only [Option.bind_some]; rw [if_pos trivial, l1In_sw, decide_eq_false hr]; simp only [Option.bind_some]; rw [if_neg (by decide)]
    · dsimp only; unfold impl_ShortWords.f; rw [if_pos hg, if_neg hr]
 | false =>
  refine ⟨[], false, ⟨by simp, fun x hx => by simp at hx⟩, ⟨K, fun k hk => ?_⟩, ⟨0, fun k hk => ?_⟩⟩
  · dsimp only; unfold spec_ShortWords.f; rw [hG k (by omega), hg]; rfl
  · dsimp only; unfold impl_ShortWords.f; rw [if_neg (by rw [hg]; exact Bool.false_ne_true)]
end Go.Proofs.Ytekoclhnfhbmeaa.P
namespace Go.Proofs.Ytekoclhnfhbmeaa.P
open Go.RowKit Go.Proofs.YtekoclhnfhbmeaaW.PrintWords Go.Proofs.YtekoclhnfhbmeaaW.PrintLast Go.Proofs.YtekoclhnfhbmeaaW.PrintMore
set_option linter.unusedVariables false
set_option linter.unusedSimpArgs false
set_option maxHeartbeats 16000000 in
set_option maxRecDepth 100000 in
theorem holds_FnExactShortWords (w : World) (a0_0 : Int) (a0_1 : Int) (A0_2 : Option Addr) (c0_2 : Nat) (l0_2 : List S98) (hr0_2 : Kd.C k98 w A0_2 l0_2.length l0_2) (hc0_2 : l0_2.length ≤ c0_2) (a1 : Int) :
 Calls Try.prog 9 #[.agg #[.int .i64 a0_0, .int .i64 a0_1, .slice A0_2 l0_2.length c0_2], .int .i64 a1] w fun e w' => e = .returned (.bool true) ∧ Below w.heap.size w w' := by
 have hu0 := Try.underlying24; have hu1 := Try.underlying28; have HB := zA (Below.refl w.heap.size w); obtain ⟨hq0, hw0⟩ := reads_small hr0_2; obtain ⟨t0, hze0, htl0, hsm0⟩ := szGrammar_fr a0_0 a0_1 l0_2 hq0 hw0 1048576 (by omega) (by omega); obtain ⟨kz0, hz0⟩ := hze0.rounds; (try dsimp only at hz0); by_cases hT0 : t0 < 0
 · have dt_ : decide (t0 < 0) = true := decide_eq_true hT0; clear hT0; go_enter Try.func9, Try.ntmps9; go_wp2_with fail; refine (laws_szGrammar.calls kz0 a0_0 a0_1 A0_2 c0_2 l0_2 1048576 t0 _ (zS hr0_2 (by repeat (first | (with_reducible first | exact HB.out | apply zB | apply zC | apply zD) | exact HB.out))) hc0_2 hz0).mono ?_; rintro e w0_ ⟨rfl, hb⟩; have nB := zA (zG (by repeat (first | (with_reducible first | exact HB.out | apply zB | apply zC | apply zD) | exact HB.out)) hb); have BA0_ := zA (zM (o := .cells #[.int .i64 a0_0, .int .i64 a0_1, .slice A0_2 l0_2.length c0_2] 24 (0, 0)) (heap_alloc_new w _) hb); clear HB hb; have HB := nB; clear nB; go_wp2; go_ret; exact ⟨rfl, by repeat (first | (with_reducible first | exact HB.out | apply zB | apply zC | apply zD) | exact HB.out)⟩
 have dt0 : decide (t0 < 0) = false := decide_eq_false hT0; have hs0 := hsm0 (by omega); obtain ⟨kt0, ht0⟩ := (toGrammar_ev a0_0 a0_1 l0_2 hs0).rounds; obtain ⟨r0, r1, hr0, es, ei⟩ := pure_ShortWords a0_0 a0_1 (convs l0_2) a1 (smallI_convs hs0); obtain ⟨ks, hks⟩ := es.rounds; obtain ⟨ki, hki⟩ : ∃ k, impl_ShortWords.f k a0_0 a0_1 (convs l0_2) a1 = some (r0, r1) := by obtain ⟨K, h⟩ := ei; exact ⟨K, h K (Nat.le_refl _)⟩
 obtain ⟨ke0, hke0⟩ := (eqIntSS_ev r0 (by have := hr0.1; omega) (fun i hi => by have := hr0.2 (rd_L1 r0 i) (by unfold rd_L1; rw [Int.toNat_natCast, List.getD_eq_getElem?_getD, List.getElem?_eq_getElem hi]; exact List.getElem_mem hi); omega)).rounds; obtain ⟨kx0, hkx0⟩ := (eqGrammar_ev a0_0 a0_1 (convs l0_2) (smallI_convs hs0)).rounds; have bx0 := szR_bound (smallI_convs hs0); have br0 : (szRows r0 : Int) ≤ 1152921504606846 := by have h1 := szRows_small r0 4 hr0.2; have h2 := hr0.1; omega
 have bl0 : r0.length ≤ 1280 := hr0.1; (try dsimp only at ht0 hks hke0 hkx0); clear es ei hr0; clear hT0 hq0 hw0 hze0 hsm0 htl0; have KEEP0 := zA hs0; clear hs0; go_enter Try.func9, Try.ntmps9; go_wp2_with fail; refine (laws_szGrammar.calls kz0 a0_0 a0_1 A0_2 c0_2 l0_2 1048576 t0 _ (zS hr0_2 (by exact (zB HB.out _))) hc0_2 hz0).mono ?_; rintro e w1 ⟨rfl, hb⟩; have HSZ := zA (show w.heap.size + 1 ≤ w1.heap.size by have h_ := hb.size; (try simp at h_); omega); have nB := zA (zG (by exact (zB HB.out _)) hb); have nBA0 := zA (zM (o := .cells #[.int .i64 a0_0, .int .i64 a0_1, .slice A0_2 l0_2.length c0_2] 24 (0, 0)) (heap_alloc_new w _) hb); clear HB; have HB := nB; have BA0 := nBA0; clear nB nBA0; have Z1 := HSZ; clear HSZ; have cBA0_0 : w1.cell? ⟨w.heap.size, 0, none⟩ = some (.int .i64 a0_0) := (zK BA0.out 0).trans rfl; have cBA0_1 : w1.cell? ⟨w.heap.size, 1, none⟩ = some (.int .i64 a0_1) := (zK BA0.out 1).trans rfl; have cBA0_2 : w1.cell? ⟨w.heap.size, 2, none⟩ = some (.slice A0_2 l0_2.length c0_2) := (zK BA0.out 2).trans rfl; go_wp2_with fail; clear cBA0_0 cBA0_1 cBA0_2; refine (laws_toGrammar.calls kt0 a0_0 a0_1 A0_2 c0_2 l0_2 a0_0 a0_1 (convs l0_2) _ (zS hr0_2 (by exact HB.out)) hc0_2 ht0).mono ?_; rintro e w2 ⟨v0, rfl, ho0, hb⟩; obtain ⟨A102_0, c102_0, ev_⟩ := Kd.S_slice ho0; subst ev_; have NO2_0 := zA (Kd.S_mono (ok' := fun q_ => w1.heap.size + 0 ≤ q_ ∧ q_ < w2.heap.size) (Kd.S_lower (Kd.S_bound ho0) (zF (by exact HB.out))) (fun q_ h_ => ⟨by have h2_ := h_.2.1; (try simp at h2_); omega, h_.2.2.1⟩)); clear ho0; have HSZ := zA (show w1.heap.size + 0 ≤ w2.heap.size by have h_ := hb.size; (try simp at h_); omega); have nB := zA (zG (by exact HB.out) hb); have nBA0 := zA (zM (g := w.heap.size) (o := .cells #[.int .i64 a0_0, .int .i64 a0_1, .slice A0_2 l0_2.length c0_2] 24 (0, 0)) BA0.out hb); clear HB BA0; have HB := nB; have BA0 := nBA0; clear nB nBA0; have Z2 := HSZ; clear HSZ; have cBA0_0 : w2.cell? ⟨w.heap.size, 0, none⟩ = some (.int .i64 a0_0) := (zK BA0.out 0).trans rfl; have cBA0_1 : w2.cell? ⟨w.heap.size, 1, none⟩ = some (.int .i64 a0_1) := (zK BA0.out 1).trans rfl; have cBA0_2 : w2.cell? ⟨w.heap.size, 2, none⟩ = some (.slice A0_2 l0_2.length c0_2) := (zK BA0.out 2).trans rfl; have O2_0 := NO2_0; clear NO2_0; go_wp2_with fail; clear cBA0_0 cBA0_1 cBA0_2; refine (spec_ShortWords.calls ks a0_0 a0_1 _ _ (convs l0_2) a1 r0 r1 _ (Kd.S_reads' O2_0.out).2.2 (Kd.S_reads' O2_0.out).2.1 hks).mono ?_; rintro e w3 ⟨v0, rfl, ho0, hb⟩; obtain ⟨A103_0, c103_0, ev_⟩ := Kd.S_slice ho0; subst ev_; have NO3_0 := zA (Kd.S_mono (ok' := fun q_ => w2.heap.size + 0 ≤ q_ ∧ q_ < w3.heap.size) (Kd.S_lower (Kd.S_bound ho0) (zF (by exact HB.out))) (fun q_ h_ => ⟨by have h2_ := h_.2.1; (try simp at h2_); omega, h_.2.2.1⟩)); clear ho0; have HSZ := zA (show w2.heap.size + 0 ≤ w3.heap.size by have h_ := hb.size; (try simp at h_); omega); have nB := zA (zG (by exact HB.out) hb); have nO2_0 := zA (Kd.S_below O2_0.out hb); have nBA0 := zA (zM (g := w.heap.size) (o := .cells #[.int .i64 a0_0, .int .i64 a0_1, .slice A0_2 l0_2.length c0_2] 24 (0, 0)) BA0.out hb); clear HB O2_0 BA0; have HB := nB; have O2_0 := nO2_0; have BA0 := nBA0; clear nB nO2_0 nBA0; have Z3 := HSZ; clear HSZ; have cBA0_0 : w3.cell? ⟨w.heap.size, 0, none⟩ = some (.int .i64 a0_0) := (zK BA0.out 0).trans rfl; have cBA0_1 : w3.cell? ⟨w.heap.size, 1, none⟩ = some (.int .i64 a0_1) := (zK BA0.out 1).trans rfl; have cBA0_2 : w3.cell? ⟨w.heap.size, 2, none⟩ = some (.slice A0_2 l0_2.length c0_2) := (zK BA0.out 2).trans rfl; have O3_0 := NO3_0; clear NO3_0; go_wp2_with fail; clear cBA0_0 cBA0_1 cBA0_2; refine (laws_toGrammar.calls kt0 a0_0 a0_1 A0_2 c0_2 l0_2 a0_0 a0_1 (convs l0_2) _ (zS hr0_2 (by exact HB.out)) hc0_2 ht0).mono ?_; rintro e w4 ⟨v0, rfl, ho0, hb⟩; obtain ⟨A104_0, c104_0, ev_⟩ := Kd.S_slice ho0; subst ev_; have NO4_0 := zA (Kd.S_mono (ok' := fun q_ => w3.heap.size + 0 ≤ q_ ∧ q_ < w4.heap.size) (Kd.S_lower (Kd.S_bound ho0) (zF (by exact HB.out))) (fun q_ h_ => ⟨by have h2_ := h_.2.1; (try simp at h2_); omega, h_.2.2.1⟩)); clear ho0; have HSZ := zA (show w3.heap.size + 0 ≤ w4.heap.size by have h_ := hb.size; (try simp at h_); omega); have nB := zA (zG (by exact HB.out) hb); have nO3_0 := zA (Kd.S_below O3_0.out hb); have nBA0 := zA (zM (g := w.heap.size) (o := .cells #[.int .i64 a0_0, .int .i64 a0_1, .slice A0_2 l0_2.length c0_2] 24 (0, 0)) BA0.out hb); clear HB O3_0 BA0; have HB := nB; have O3_0 := nO3_0; have BA0 := nBA0; clear nB nO3_0 nBA0; have Z4 := HSZ; clear HSZ; have cBA0_0 : w4.cell? ⟨w.heap.size, 0, none⟩ = some (.int .i64 a0_0) := (zK BA0.out 0).trans rfl; have cBA0_1 : w4.cell? ⟨w.heap.size, 1, none⟩ = some (.int .i64 a0_1) := (zK BA0.out 1).trans rfl; have cBA0_2 : w4.cell? ⟨w.heap.size, 2, none⟩ = some (.slice A0_2 l0_2.length c0_2) := (zK BA0.out 2).trans rfl; have O4_0 := NO4_0; clear NO4_0; go_wp2_with fail; clear cBA0_0 cBA0_1 cBA0_2; refine (impl_ShortWords.calls ki a0_0 a0_1 _ _ (convs l0_2) a1 r0 r1 _ (Kd.S_reads' (Kd.S_alloc O4_0.out _)).2.2 (Kd.S_reads' O4_0.out).2.1 hki).mono ?_; rintro e w5 ⟨v0, rfl, ho0, hb⟩; obtain ⟨A105_0, c105_0, ev_⟩ := Kd.S_slice ho0; subst ev_; have NO5_0 := zA (Kd.S_mono (ok' := fun q_ => w4.heap.size + 1 ≤ q_ ∧ q_ < w5.heap.size) (Kd.S_lower (Kd.S_bound ho0) (zF (by exact (zB HB.out _)))) (fun q_ h_ => ⟨by have h2_ := h_.2.1; (try simp at h2_); omega, h_.2.2.1⟩)); clear ho0; have HSZ := zA (show w4.heap.size + 1 ≤ w5.heap.size by have h_ := hb.size; (try simp at h_); omega); have nB := zA (zG (by exact (zB HB.out _)) hb); have nO3_0 := zA (Kd.S_below (Kd.S_alloc O3_0.out _) hb); have nO4_0 := zA (Kd.S_below (Kd.S_alloc O4_0.out _) hb); have nBA0 := zA (zM (g := w.heap.size) (o := .cells #[.int .i64 a0_0, .int .i64 a0_1, .slice A0_2 l0_2.length c0_2] 24 (0, 0)) (zH BA0.out _) hb); have nBX0 := zA (zM (o := .cells #[.int .i64 a0_0, .int .i64 a0_1, .slice A104_0 (convs l0_2).length c104_0] 28 (0, 0)) (heap_alloc_new w4 _) hb); clear HB O3_0 O4_0 BA0; have HB := nB; have O3_0 := nO3_0; have O4_0 := nO4_0; have BA0 := nBA0; have BX0 := nBX0; clear nB nO3_0 nO4_0 nBA0 nBX0; have Z5 := HSZ; clear HSZ; have cBA0_0 : w5.cell? ⟨w.heap.size, 0, none⟩ = some (.int .i64 a0_0) := (zK BA0.out 0).trans rfl; have cBA0_1 : w5.cell? ⟨w.heap.size, 1, none⟩ = some (.int .i64 a0_1) := (zK BA0.out 1).trans rfl; have cBA0_2 : w5.cell? ⟨w.heap.size, 2, none⟩ = some (.slice A0_2 l0_2.length c0_2) := (zK BA0.out 2).trans rfl; have cBX0_0 : w5.cell? ⟨w4.heap.size, 0, none⟩ = some (.int .i64 a0_0) := (zK BX0.out 0).trans rfl; have cBX0_1 : w5.cell? ⟨w4.heap.size, 1, none⟩ = some (.int .i64 a0_1) := (zK BX0.out 1).trans rfl; have cBX0_2 : w5.cell? ⟨w4.heap.size, 2, none⟩ = some (.slice A104_0 (convs l0_2).length c104_0) := (zK BX0.out 2).trans rfl; have O5_0 := NO5_0; clear NO5_0; go_wp2_with fail; clear cBA0_0 cBA0_1 cBA0_2 cBX0_0 cBX0_1 cBX0_2; refine (laws_eqIntSS.calls ke0 _ _ r0 _ _ r0 true _ (Kd.S_reads' O5_0.out).2.2 (Kd.S_reads' O5_0.out).2.1 (Kd.S_reads' O3_0.out).2.2 (Kd.S_reads' O3_0.out).2.1 hke0).mono ?_; rintro e w6 ⟨rfl, hd⟩; have hb := drawn_below hd; clear hd; have HSZ := zA (show w5.heap.size + 0 ≤ w6.heap.size by have h_ := hb.size; (try simp at h_); omega); have nB := zA (zG (by exact HB.out) hb); have nO3_0 := zA (Kd.S_below O3_0.out hb); have nO4_0 := zA (Kd.S_below O4_0.out hb); have nO5_0 := zA (Kd.S_below O5_0.out hb); have nBA0 := zA (zM (g := w.heap.size) (o := .cells #[.int .i64 a0_0, .int .i64 a0_1, .slice A0_2 l0_2.length c0_2] 24 (0, 0)) BA0.out hb); have nBX0 := zA (zM (g := w4.heap.size) (o := .cells #[.int .i64 a0_0, .int .i64 a0_1, .slice A104_0 (convs l0_2).length c104_0] 28 (0, 0)) BX0.out hb); clear HB O3_0 O4_0 O5_0 BA0 BX0; have HB := nB; have O3_0 := nO3_0; have O4_0 := nO4_0; have O5_0 := nO5_0; have BA0 := nBA0; have BX0 := nBX0; clear nB nO3_0 nO4_0 nO5_0 nBA0 nBX0; have Z6 := HSZ; clear HSZ; have cBA0_0 : w6.cell? ⟨w.heap.size, 0, none⟩ = some (.int .i64 a0_0) := (zK BA0.out 0).trans rfl; have cBA0_1 : w6.cell? ⟨w.heap.size, 1, none⟩ = some (.int .i64 a0_1) := (zK BA0.out 1).trans rfl; have cBA0_2 : w6.cell? ⟨w.heap.size, 2, none⟩ = some (.slice A0_2 l0_2.length c0_2) := (zK BA0.out 2).trans rfl; have cBX0_0 : w6.cell? ⟨w4.heap.size, 0, none⟩ = some (.int .i64 a0_0) := (zK BX0.out 0).trans rfl; have cBX0_1 : w6.cell? ⟨w4.heap.size, 1, none⟩ = some (.int .i64 a0_1) := (zK BX0.out 1).trans rfl; have cBX0_2 : w6.cell? ⟨w4.heap.size, 2, none⟩ = some (.slice A104_0 (convs l0_2).length c104_0) := (zK BX0.out 2).trans rfl; go_wp2_with fail; have nO3_0 := zA (Kd.S_drew O3_0.out); have nO4_0 := zA (Kd.S_drew O4_0.out); have nO5_0 := zA (Kd.S_drew O5_0.out); have nBA0 := zA (zJ BA0.out); have nBX0 := zA (zJ BX0.out); have nB := zA (zD HB.out); have HSZ := zA (show w6.heap.size + 0 ≤ w6.drew.heap.size from Nat.le_refl _); clear cBA0_0 cBA0_1 cBA0_2 cBX0_0 cBX0_1 cBX0_2; clear HB O3_0 O4_0 O5_0 BA0 BX0; have HB := nB; have O3_0 := nO3_0; have O4_0 := nO4_0; have O5_0 := nO5_0; have BA0 := nBA0; have BX0 := nBX0; clear nB nO3_0 nO4_0 nO5_0 nBA0 nBX0; refine start_ (n := 5) (S := fun w' => w'.cell? ⟨w4.heap.size, 0, none⟩ = some (.int .i64 a0_0) ∧ w'.cell? ⟨w4.heap.size, 1, none⟩ = some (.int .i64 a0_1) ∧ w'.cell? ⟨w4.heap.size, 2, none⟩ = some (.slice A104_0 (convs l0_2).length c104_0) ∧ w'.cell? ⟨w.heap.size, 0, none⟩ = some (.int .i64 a0_0) ∧ w'.cell? ⟨w.heap.size, 1, none⟩ = some (.int .i64 a0_1) ∧ w'.cell? ⟨w.heap.size, 2, none⟩ = some (.slice A0_2 l0_2.length c0_2)) (ds := []) #[zf, zf, zf, zf, zf] (by kernel_rfl) rfl rfl ⟨(zK BX0.out 0).trans rfl, (zK BX0.out 1).trans rfl, (zK BX0.out 2).trans rfl, (zK BA0.out 0).trans rfl, (zK BA0.out 1).trans rfl, (zK BA0.out 2).trans rfl⟩ (fun hHeld => ?_); generalize w6.drew = w7 at O3_0 O4_0 O5_0 BA0 BX0 HB HSZ hHeld ⊢; have Z7 := HSZ; clear HSZ; refine take_ (i := 0) (v := ?_) (a' := ?_) #[zt, zf, zf, zf, zf] rfl rfl (by kernel_rfl) (fun _ _ _ h => h) (Or.inl ⟨by rfl, ?_⟩) hHeld ?_ ?_; rotate_left
 · rintro w' ⟨s0, s1, s2, s3, s4, s5⟩; go_simp; with_reducible rfl
 rotate_left
 · simp only [Act.put, List.setIfInBounds_toArray, List.set_cons_zero, List.set_cons_succ, i64_w, i32_w]; rfl
 refine take_ (i := 1) (v := ?_) (a' := ?_) #[zt, zt, zf, zf, zf] rfl rfl (by kernel_rfl) (fun _ _ _ h => h) (Or.inl ⟨by rfl, ?_⟩) hHeld ?_ ?_; rotate_left
 · rintro w' ⟨s0, s1, s2, s3, s4, s5⟩; go_simp; with_reducible rfl
 rotate_left
 · simp only [Act.put, List.setIfInBounds_toArray, List.set_cons_zero, List.set_cons_succ, i64_w, i32_w]; rfl
 refine one_ (i := 2) #[zt, zt, zt, zf, zf] rfl rfl (by kernel_rfl) (by decide) (fun K hK => ?_); refine goes_ Try.func17 (by kernel_rfl) rfl #[.agg #[.int .i64 a0_0, .int .i64 a0_1, .slice A0_2 l0_2.length c0_2]] (by rfl) rfl rfl (by first | rfl | ((try simp only [List.map_toArray, List.map_cons, List.map_nil]); first | done | rfl)) ?_; (with_reducible refine (laws_toGrammar.calls kt0 a0_0 a0_1 A0_2 c0_2 l0_2 a0_0 a0_1 (convs l0_2) _ (zS hr0_2 (by exact HB.out)) hc0_2 ht0).mono ?_); rintro e w8 ⟨v0, rfl, ho0, hb⟩; refine ⟨_, rfl, ?_⟩; obtain ⟨A108_0, c108_0, ev_⟩ := Kd.S_slice ho0; subst ev_; have NO8_0 := zA (Kd.S_mono (ok' := fun q_ => w7.heap.size + 0 ≤ q_ ∧ q_ < w8.heap.size) (Kd.S_lower (Kd.S_bound ho0) (zF (by exact HB.out))) (fun q_ h_ => ⟨by have h2_ := h_.2.1; (try simp at h2_); omega, h_.2.2.1⟩)); clear ho0; have HSZ := zA (show w7.heap.size + 0 ≤ w8.heap.size by have h_ := hb.size; (try simp at h_); omega); have nB := zA (zG (by exact HB.out) hb); have nO3_0 := zA (Kd.S_below O3_0.out hb); have nO4_0 := zA (Kd.S_below O4_0.out hb); have nO5_0 := zA (Kd.S_below O5_0.out hb); have nBA0 := zA (zM (g := w.heap.size) (o := .cells #[.int .i64 a0_0, .int .i64 a0_1, .slice A0_2 l0_2.length c0_2] 24 (0, 0)) BA0.out hb); have nBX0 := zA (zM (g := w4.heap.size) (o := .cells #[.int .i64 a0_0, .int .i64 a0_1, .slice A104_0 (convs l0_2).length c104_0] 28 (0, 0)) BX0.out hb); clear HB O3_0 O4_0 O5_0 BA0 BX0; have HB := nB; have O3_0 := nO3_0; have O4_0 := nO4_0; have O5_0 := nO5_0; have BA0 := nBA0; have BX0 := nBX0; clear nB nO3_0 nO4_0 nO5_0 nBA0 nBX0; have Z8 := HSZ; clear HSZ; have cBA0_0 : w8.cell? ⟨w.heap.size, 0, none⟩ = some (.int .i64 a0_0) := (zK BA0.out 0).trans rfl; have cBA0_1 : w8.cell? ⟨w.heap.size, 1, none⟩ = some (.int .i64 a0_1) := (zK BA0.out 1).trans rfl; have cBA0_2 : w8.cell? ⟨w.heap.size, 2, none⟩ = some (.slice A0_2 l0_2.length c0_2) := (zK BA0.out 2).trans rfl; have cBX0_0 : w8.cell? ⟨w4.heap.size, 0, none⟩ = some (.int .i64 a0_0) := (zK BX0.out 0).trans rfl; have cBX0_1 : w8.cell? ⟨w4.heap.size, 1, none⟩ = some (.int .i64 a0_1) := (zK BX0.out 1).trans rfl; have cBX0_2 : w8.cell? ⟨w4.heap.size, 2, none⟩ = some (.slice A104_0 (convs l0_2).length c104_0) := (zK BX0.out 2).trans rfl; have O8_0 := NO8_0; clear NO8_0; clear cBA0_0 cBA0_1 cBA0_2 cBX0_0 cBX0_1 cBX0_2; refine hK.out _ _ ⟨(zK BX0.out 0).trans rfl, (zK BX0.out 1).trans rfl, (zK BX0.out 2).trans rfl, (zK BA0.out 0).trans rfl, (zK BA0.out 1).trans rfl, (zK BA0.out 2).trans rfl⟩ (fun hHeld => ?_); clear hK K; refine norm_ (a' := ?_) ?_ ?_; rotate_left
 · show Act.put _ (some _) _ = _; simp only [Act.put, List.setIfInBounds_toArray, List.set_cons_zero, List.set_cons_succ, i64_w, i32_w]; rfl
 refine one_ (i := 3) #[zt, zt, zt, zt, zf] rfl rfl (by kernel_rfl) (by decide) (fun K hK => ?_); refine goes_ Try.func19 (by kernel_rfl) rfl #[.agg #[.int .i64 a0_0, .int .i64 a0_1, .slice A104_0 (convs l0_2).length c104_0], .agg #[.int .i64 a0_0, .int .i64 a0_1, .slice A108_0 (convs l0_2).length c108_0]] (by rfl) rfl rfl (by first | rfl | ((try simp only [List.map_toArray, List.map_cons, List.map_nil]); first | done | rfl)) ?_; (with_reducible refine (laws_eqGrammar.calls kx0 a0_0 a0_1 _ _ (convs l0_2) a0_0 a0_1 _ _ (convs l0_2) true _ (Kd.S_reads' O4_0.out).2.2 (Kd.S_reads' O4_0.out).2.1 (Kd.S_reads' O8_0.out).2.2 (Kd.S_reads' O8_0.out).2.1 hkx0).mono ?_); rintro e w9 ⟨rfl, hb⟩; refine ⟨_, rfl, ?_⟩; clear O8_0; have HSZ := zA (show w8.heap.size + 0 ≤ w9.heap.size by have h_ := hb.size; (try simp at h_); omega); have nB := zA (zG (by exact HB.out) hb); have nO3_0 := zA (Kd.S_below O3_0.out hb); have nO4_0 := zA (Kd.S_below O4_0.out hb); have nO5_0 := zA (Kd.S_below O5_0.out hb); have nBA0 := zA (zM (g := w.heap.size) (o := .cells #[.int .i64 a0_0, .int .i64 a0_1, .slice A0_2 l0_2.length c0_2] 24 (0, 0)) BA0.out hb); have nBX0 := zA (zM (g := w4.heap.size) (o := .cells #[.int .i64 a0_0, .int .i64 a0_1, .slice A104_0 (convs l0_2).length c104_0] 28 (0, 0)) BX0.out hb); clear HB O3_0 O4_0 O5_0 BA0 BX0; have HB := nB; have O3_0 := nO3_0; have O4_0 := nO4_0; have O5_0 := nO5_0; have BA0 := nBA0; have BX0 := nBX0; clear nB nO3_0 nO4_0 nO5_0 nBA0 nBX0; have Z9 := HSZ; clear HSZ; have cBA0_0 : w9.cell? ⟨w.heap.size, 0, none⟩ = some (.int .i64 a0_0) := (zK BA0.out 0).trans rfl; have cBA0_1 : w9.cell? ⟨w.heap.size, 1, none⟩ = some (.int .i64 a0_1) := (zK BA0.out 1).trans rfl; have cBA0_2 : w9.cell? ⟨w.heap.size, 2, none⟩ = some (.slice A0_2 l0_2.length c0_2) := (zK BA0.out 2).trans rfl; have cBX0_0 : w9.cell? ⟨w4.heap.size, 0, none⟩ = some (.int .i64 a0_0) := (zK BX0.out 0).trans rfl; have cBX0_1 : w9.cell? ⟨w4.heap.size, 1, none⟩ = some (.int .i64 a0_1) := (zK BX0.out 1).trans rfl; have cBX0_2 : w9.cell? ⟨w4.heap.size, 2, none⟩ = some (.slice A104_0 (convs l0_2).length c104_0) := (zK BX0.out 2).trans rfl; clear cBA0_0 cBA0_1 cBA0_2 cBX0_0 cBX0_1 cBX0_2; refine hK.out _ _ ⟨(zK BX0.out 0).trans rfl, (zK BX0.out 1).trans rfl, (zK BX0.out 2).trans rfl, (zK BA0.out 0).trans rfl, (zK BA0.out 1).trans rfl, (zK BA0.out 2).trans rfl⟩ (fun hHeld => ?_); clear hK K; refine norm_ (a' := ?_) ?_ ?_; rotate_left
 · show Act.put _ (some _) _ = _; simp only [Act.put, List.setIfInBounds_toArray, List.set_cons_zero, List.set_cons_succ, i64_w, i32_w]; rfl
 refine pure_ (i := 4) (v := ?_) (a' := ?_) #[zt, zt, zt, zt, zt] rfl rfl (by kernel_rfl) (fun _ _ _ h => h) (Or.inl ⟨by rfl, ?_⟩) ?_ ?_; rotate_left
 · intro w'; go_simp; with_reducible rfl
 rotate_left
 · simp only [Act.put, List.setIfInBounds_toArray, List.set_cons_zero, List.set_cons_succ, i64_w, i32_w]; rfl
 refine done_ (by kernel_rfl) ?_; clear hHeld; have cBA0_0 : w9.cell? ⟨w.heap.size, 0, none⟩ = some (.int .i64 a0_0) := (zK BA0.out 0).trans rfl; have cBA0_1 : w9.cell? ⟨w.heap.size, 1, none⟩ = some (.int .i64 a0_1) := (zK BA0.out 1).trans rfl; have cBA0_2 : w9.cell? ⟨w.heap.size, 2, none⟩ = some (.slice A0_2 l0_2.length c0_2) := (zK BA0.out 2).trans rfl; have cBX0_0 : w9.cell? ⟨w4.heap.size, 0, none⟩ = some (.int .i64 a0_0) := (zK BX0.out 0).trans rfl; have cBX0_1 : w9.cell? ⟨w4.heap.size, 1, none⟩ = some (.int .i64 a0_1) := (zK BX0.out 1).trans rfl; have cBX0_2 : w9.cell? ⟨w4.heap.size, 2, none⟩ = some (.slice A104_0 (convs l0_2).length c104_0) := (zK BX0.out 2).trans rfl; obtain ⟨kk0, hkk0⟩ : ∃ z_ : Int, z_ = 1 + (szR (convs l0_2) : Int) := ⟨_, rfl⟩
 go_wp2_with fail; clear cBA0_0 cBA0_1 cBA0_2 cBX0_0 cBX0_1 cBX0_2; have CM := markGrammar_calls (fun q_ => w3.heap.size + 0 ≤ q_ ∧ q_ < w4.heap.size) a0_0 a0_1 _ (convs l0_2) (1) w _ (by exact HB.out) O4_0.out (by omega) (by have := bx0; omega); rw [← hkk0] at CM; refine CM.mono ?_; rintro e w10 ⟨rfl, ho, hB_, hK_⟩; have NB := zA hB_; have NK := zA hK_; have NO := zA ho; clear ho hB_ hK_ CM; have HSZ := zA (show w9.heap.size + 0 ≤ w10.heap.size by have h_ := NK.out.1; (try simp at h_); omega); have nB := NB; have nO3_0 := zA (Kd.S_kept O3_0.out NK.out (fun q_ h1_ h2_ => by have := Z1.out; have := Z2.out; have := Z3.out; have := Z4.out; have := Z5.out; have := Z6.out; have := Z7.out; have := Z8.out; have := Z9.out; omega)); have nO5_0 := zA (Kd.S_kept O5_0.out NK.out (fun q_ h1_ h2_ => by have := Z1.out; have := Z2.out; have := Z3.out; have := Z4.out; have := Z5.out; have := Z6.out; have := Z7.out; have := Z8.out; have := Z9.out; omega)); have nBA0 := zA (blk_kept (g := w.heap.size) (o := .cells #[.int .i64 a0_0, .int .i64 a0_1, .slice A0_2 l0_2.length c0_2] 24 (0, 0)) BA0.out NK.out (fun h2_ => by have := Z1.out; have := Z2.out; have := Z3.out; have := Z4.out; have := Z5.out; have := Z6.out; have := Z7.out; have := Z8.out; have := Z9.out; omega)); have nBX0 := zA (blk_kept (g := w4.heap.size) (o := .cells #[.int .i64 a0_0, .int .i64 a0_1, .slice A104_0 (convs l0_2).length c104_0] 28 (0, 0)) BX0.out NK.out (fun h2_ => by have := Z1.out; have := Z2.out; have := Z3.out; have := Z4.out; have := Z5.out; have := Z6.out; have := Z7.out; have := Z8.out; have := Z9.out; omega)); clear HB O3_0 O5_0 BA0 BX0; have HB := nB; have O3_0 := nO3_0; have O5_0 := nO5_0; have BA0 := nBA0; have BX0 := nBX0; clear nB nO3_0 nO5_0 nBA0 nBX0; have Z10 := HSZ; clear HSZ; have cBA0_0 : w10.cell? ⟨w.heap.size, 0, none⟩ = some (.int .i64 a0_0) := (zK BA0.out 0).trans rfl; have cBA0_1 : w10.cell? ⟨w.heap.size, 1, none⟩ = some (.int .i64 a0_1) := (zK BA0.out 1).trans rfl; have cBA0_2 : w10.cell? ⟨w.heap.size, 2, none⟩ = some (.slice A0_2 l0_2.length c0_2) := (zK BA0.out 2).trans rfl; have cBX0_0 : w10.cell? ⟨w4.heap.size, 0, none⟩ = some (.int .i64 a0_0) := (zK BX0.out 0).trans rfl; have cBX0_1 : w10.cell? ⟨w4.heap.size, 1, none⟩ = some (.int .i64 a0_1) := (zK BX0.out 1).trans rfl; have cBX0_2 : w10.cell? ⟨w4.heap.size, 2, none⟩ = some (.slice A104_0 (convs l0_2).length c104_0) := (zK BX0.out 2).trans rfl; clear O4_0; have O4_0 := NO; clear NO NK NB; have dkk0 : decide (kk0 < 0) = false := decide_eq_false (by omega); have gkk0 : 0 ≤ kk0 := by omega
 have qkk0 : kk0 ≤ 1152921504606847 := by have := bx0; omega
 have Skk0 := zA hkk0; clear hkk0; clear O4_0; go_wp2_with fail; clear cBA0_0 cBA0_1 cBA0_2; refine (laws_eqIntSS.calls ke0 _ _ r0 _ _ r0 true _ (Kd.S_reads' O5_0.out).2.2 (Kd.S_reads' O5_0.out).2.1 (Kd.S_reads' O3_0.out).2.2 (Kd.S_reads' O3_0.out).2.1 hke0).mono ?_; rintro e w11 ⟨rfl, hd⟩; have hb := drawn_below hd; clear hd; have HSZ := zA (show w10.heap.size + 0 ≤ w11.heap.size by have h_ := hb.size; (try simp at h_); omega); have nB := zA (zG (by exact HB.out) hb); have nO3_0 := zA (Kd.S_below O3_0.out hb); have nO5_0 := zA (Kd.S_below O5_0.out hb); have nBA0 := zA (zM (g := w.heap.size) (o := .cells #[.int .i64 a0_0, .int .i64 a0_1, .slice A0_2 l0_2.length c0_2] 24 (0, 0)) BA0.out hb); clear HB O3_0 O5_0 BA0; have HB := nB; have O3_0 := nO3_0; have O5_0 := nO5_0; have BA0 := nBA0; clear nB nO3_0 nO5_0 nBA0; have Z11 := HSZ; clear HSZ; have cBA0_0 : w11.cell? ⟨w.heap.size, 0, none⟩ = some (.int .i64 a0_0) := (zK BA0.out 0).trans rfl; have cBA0_1 : w11.cell? ⟨w.heap.size, 1, none⟩ = some (.int .i64 a0_1) := (zK BA0.out 1).trans rfl; have cBA0_2 : w11.cell? ⟨w.heap.size, 2, none⟩ = some (.slice A0_2 l0_2.length c0_2) := (zK BA0.out 2).trans rfl; obtain ⟨mm0, hmm0⟩ : ∃ z_ : Int, z_ = 1 + (szRows r0 : Int) := ⟨_, rfl⟩
 go_wp2_with fail; clear cBA0_0 cBA0_1 cBA0_2; have CM := markIntSS_calls (fun q_ => w4.heap.size + 1 ≤ q_ ∧ q_ < w5.heap.size) _ r0 (1) w _ (by exact HB.out) O5_0.out (by omega) (by have := br0; omega) (by omega); rw [← hmm0] at CM; refine CM.mono ?_; rintro e w12 ⟨rfl, ho, hB_, hK_⟩; have NB := zA hB_; have NK := zA hK_; have NO := zA ho; clear ho hB_ hK_ CM; have HSZ := zA (show w11.heap.size + 0 ≤ w12.heap.size by have h_ := NK.out.1; (try simp at h_); omega); have nB := NB; have nO3_0 := zA (Kd.S_kept O3_0.out NK.out (fun q_ h1_ h2_ => by have := Z1.out; have := Z2.out; have := Z3.out; have := Z4.out; have := Z5.out; have := Z6.out; have := Z7.out; have := Z8.out; have := Z9.out; have := Z10.out; have := Z11.out; omega)); have nBA0 := zA (blk_kept (g := w.heap.size) (o := .cells #[.int .i64 a0_0, .int .i64 a0_1, .slice A0_2 l0_2.length c0_2] 24 (0, 0)) BA0.out NK.out (fun h2_ => by have := Z1.out; have := Z2.out; have := Z3.out; have := Z4.out; have := Z5.out; have := Z6.out; have := Z7.out; have := Z8.out; have := Z9.out; have := Z10.out; have := Z11.out; omega)); clear HB O3_0 BA0; have HB := nB; have O3_0 := nO3_0; have BA0 := nBA0; clear nB nO3_0 nBA0; have Z12 := HSZ; clear HSZ; have cBA0_0 : w12.cell? ⟨w.heap.size, 0, none⟩ = some (.int .i64 a0_0) := (zK BA0.out 0).trans rfl; have cBA0_1 : w12.cell? ⟨w.heap.size, 1, none⟩ = some (.int .i64 a0_1) := (zK BA0.out 1).trans rfl; have cBA0_2 : w12.cell? ⟨w.heap.size, 2, none⟩ = some (.slice A0_2 l0_2.length c0_2) := (zK BA0.out 2).trans rfl; clear O5_0; have O5_0 := NO; clear NO NK NB; have dmm0 : decide (mm0 < 0) = false := decide_eq_false (by omega); have gmm0 : 0 ≤ mm0 := by omega
 have qmm0 : mm0 ≤ 1152921504606847 := by have := br0; omega
 have Smm0 := zA hmm0; clear hmm0; go_wp2_with fail; clear cBA0_0 cBA0_1 cBA0_2; have CH := fun A_ c_ w_ hr_ hc_ => heldIntSS_calls  A_ c_ r0 (1) w_ hr_ hc_ (by omega) (by have := br0; omega) (by omega)
 rw [← Smm0.out] at CH; refine (CH _ _ _ (Kd.S_reads' O5_0.out).2.2 (Kd.S_reads' O5_0.out).2.1).mono ?_; rintro e w13 ⟨rfl, hb⟩; clear CH; have HSZ := zA (show w12.heap.size + 0 ≤ w13.heap.size by have h_ := hb.size; (try simp at h_); omega); have nB := zA (zG (by exact HB.out) hb); have nO3_0 := zA (Kd.S_below O3_0.out hb); have nO5_0 := zA (Kd.S_below O5_0.out hb); have nBA0 := zA (zM (g := w.heap.size) (o := .cells #[.int .i64 a0_0, .int .i64 a0_1, .slice A0_2 l0_2.length c0_2] 24 (0, 0)) BA0.out hb); clear HB O3_0 O5_0 BA0; have HB := nB; have O3_0 := nO3_0; have O5_0 := nO5_0; have BA0 := nBA0; clear nB nO3_0 nO5_0 nBA0; have Z13 := HSZ; clear HSZ; have cBA0_0 : w13.cell? ⟨w.heap.size, 0, none⟩ = some (.int .i64 a0_0) := (zK BA0.out 0).trans rfl; have cBA0_1 : w13.cell? ⟨w.heap.size, 1, none⟩ = some (.int .i64 a0_1) := (zK BA0.out 1).trans rfl; have cBA0_2 : w13.cell? ⟨w.heap.size, 2, none⟩ = some (.slice A0_2 l0_2.length c0_2) := (zK BA0.out 2).trans rfl; go_wp2_with fail; clear cBA0_0 cBA0_1 cBA0_2; refine (laws_toGrammar.calls kt0 a0_0 a0_1 A0_2 c0_2 l0_2 a0_0 a0_1 (convs l0_2) _ (zS hr0_2 (by exact HB.out)) hc0_2 ht0).mono ?_; rintro e w14 ⟨v0, rfl, ho0, hb⟩; obtain ⟨A114_0, c114_0, ev_⟩ := Kd.S_slice ho0; subst ev_; have NO14_0 := zA (Kd.S_mono (ok' := fun q_ => w13.heap.size + 0 ≤ q_ ∧ q_ < w14.heap.size) (Kd.S_lower (Kd.S_bound ho0) (zF (by exact HB.out))) (fun q_ h_ => ⟨by have h2_ := h_.2.1; (try simp at h2_); omega, h_.2.2.1⟩)); clear ho0; have HSZ := zA (show w13.heap.size + 0 ≤ w14.heap.size by have h_ := hb.size; (try simp at h_); omega); have nB := zA (zG (by exact HB.out) hb); have nO3_0 := zA (Kd.S_below O3_0.out hb); have nO5_0 := zA (Kd.S_below O5_0.out hb); have nBA0 := zA (zM (g := w.heap.size) (o := .cells #[.int .i64 a0_0, .int .i64 a0_1, .slice A0_2 l0_2.length c0_2] 24 (0, 0)) BA0.out hb); clear HB O3_0 O5_0 BA0; have HB := nB; have O3_0 := nO3_0; have O5_0 := nO5_0; have BA0 := nBA0; clear nB nO3_0 nO5_0 nBA0; have Z14 := HSZ; clear HSZ; have cBA0_0 : w14.cell? ⟨w.heap.size, 0, none⟩ = some (.int .i64 a0_0) := (zK BA0.out 0).trans rfl; have cBA0_1 : w14.cell? ⟨w.heap.size, 1, none⟩ = some (.int .i64 a0_1) := (zK BA0.out 1).trans rfl; have cBA0_2 : w14.cell? ⟨w.heap.size, 2, none⟩ = some (.slice A0_2 l0_2.length c0_2) := (zK BA0.out 2).trans rfl; have O14_0 := NO14_0; clear NO14_0; go_wp2_with fail; clear cBA0_0 cBA0_1 cBA0_2; refine (impl_ShortWords.calls ki a0_0 a0_1 _ _ (convs l0_2) a1 r0 r1 _ (Kd.S_reads' O14_0.out).2.2 (Kd.S_reads' O14_0.out).2.1 hki).mono ?_; rintro e w15 ⟨v0, rfl, ho0, hb⟩; obtain ⟨A115_0, c115_0, ev_⟩ := Kd.S_slice ho0; subst ev_; have NO15_0 := zA (Kd.S_mono (ok' := fun q_ => w14.heap.size + 0 ≤ q_ ∧ q_ < w15.heap.size) (Kd.S_lower (Kd.S_bound ho0) (zF (by exact HB.out))) (fun q_ h_ => ⟨by have h2_ := h_.2.1; (try simp at h2_); omega, h_.2.2.1⟩)); clear ho0; have HSZ := zA (show w14.heap.size + 0 ≤ w15.heap.size by have h_ := hb.size; (try simp at h_); omega); have nB := zA (zG (by exact HB.out) hb); have nO3_0 := zA (Kd.S_below O3_0.out hb); have nO5_0 := zA (Kd.S_below O5_0.out hb); have nO14_0 := zA (Kd.S_below O14_0.out hb); have nBA0 := zA (zM (g := w.heap.size) (o := .cells #[.int .i64 a0_0, .int .i64 a0_1, .slice A0_2 l0_2.length c0_2] 24 (0, 0)) BA0.out hb); clear HB O3_0 O5_0 O14_0 BA0; have HB := nB; have O3_0 := nO3_0; have O5_0 := nO5_0; have O14_0 := nO14_0; have BA0 := nBA0; clear nB nO3_0 nO5_0 nO14_0 nBA0; have Z15 := HSZ; clear HSZ; have cBA0_0 : w15.cell? ⟨w.heap.size, 0, none⟩ = some (.int .i64 a0_0) := (zK BA0.out 0).trans rfl; have cBA0_1 : w15.cell? ⟨w.heap.size, 1, none⟩ = some (.int .i64 a0_1) := (zK BA0.out 1).trans rfl; have cBA0_2 : w15.cell? ⟨w.heap.size, 2, none⟩ = some (.slice A0_2 l0_2.length c0_2) := (zK BA0.out 2).trans rfl; have O15_0 := NO15_0; clear NO15_0; clear O14_0; go_wp2_with fail; clear cBA0_0 cBA0_1 cBA0_2; refine (laws_eqIntSS.calls ke0 _ _ r0 _ _ r0 true _ (Kd.S_reads' O15_0.out).2.2 (Kd.S_reads' O15_0.out).2.1 (Kd.S_reads' O3_0.out).2.2 (Kd.S_reads' O3_0.out).2.1 hke0).mono ?_; rintro e w16 ⟨rfl, hd⟩; have hb := drawn_below hd; clear hd; have HSZ := zA (show w15.heap.size + 0 ≤ w16.heap.size by have h_ := hb.size; (try simp at h_); omega); have nB := zA (zG (by exact HB.out) hb); have nO3_0 := zA (Kd.S_below O3_0.out hb); have nO5_0 := zA (Kd.S_below O5_0.out hb); have nO15_0 := zA (Kd.S_below O15_0.out hb); have nBA0 := zA (zM (g := w.heap.size) (o := .cells #[.int .i64 a0_0, .int .i64 a0_1, .slice A0_2 l0_2.length c0_2] 24 (0, 0)) BA0.out hb); clear HB O3_0 O5_0 O15_0 BA0; have HB := nB; have O3_0 := nO3_0; have O5_0 := nO5_0; have O15_0 := nO15_0; have BA0 := nBA0; clear nB nO3_0 nO5_0 nO15_0 nBA0; have Z16 := HSZ; clear HSZ; have cBA0_0 : w16.cell? ⟨w.heap.size, 0, none⟩ = some (.int .i64 a0_0) := (zK BA0.out 0).trans rfl; have cBA0_1 : w16.cell? ⟨w.heap.size, 1, none⟩ = some (.int .i64 a0_1) := (zK BA0.out 1).trans rfl; have cBA0_2 : w16.cell? ⟨w.heap.size, 2, none⟩ = some (.slice A0_2 l0_2.length c0_2) := (zK BA0.out 2).trans rfl; go_wp2_with fail; clear cBA0_0 cBA0_1 cBA0_2; have CH := fun A_ c_ w_ hr_ hc_ => heldIntSS_calls  A_ c_ r0 (1) w_ hr_ hc_ (by omega) (by have := br0; omega) (by omega)
 rw [← Smm0.out] at CH; refine (CH _ _ _ (Kd.S_reads' O5_0.out).2.2 (Kd.S_reads' O5_0.out).2.1).mono ?_; rintro e w17 ⟨rfl, hb⟩; clear CH; have HSZ := zA (show w16.heap.size + 0 ≤ w17.heap.size by have h_ := hb.size; (try simp at h_); omega); have nB := zA (zG (by exact HB.out) hb); have nO3_0 := zA (Kd.S_below O3_0.out hb); have nO5_0 := zA (Kd.S_below O5_0.out hb); have nO15_0 := zA (Kd.S_below O15_0.out hb); have nBA0 := zA (zM (g := w.heap.size) (o := .cells #[.int .i64 a0_0, .int .i64 a0_1, .slice A0_2 l0_2.length c0_2] 24 (0, 0)) BA0.out hb); clear HB O3_0 O5_0 O15_0 BA0; have HB := nB; have O3_0 := nO3_0; have O5_0 := nO5_0; have O15_0 := nO15_0; have BA0 := nBA0; clear nB nO3_0 nO5_0 nO15_0 nBA0; have Z17 := HSZ; clear HSZ; have cBA0_0 : w17.cell? ⟨w.heap.size, 0, none⟩ = some (.int .i64 a0_0) := (zK BA0.out 0).trans rfl; have cBA0_1 : w17.cell? ⟨w.heap.size, 1, none⟩ = some (.int .i64 a0_1) := (zK BA0.out 1).trans rfl; have cBA0_2 : w17.cell? ⟨w.heap.size, 2, none⟩ = some (.slice A0_2 l0_2.length c0_2) := (zK BA0.out 2).trans rfl; go_wp2; go_ret; exact ⟨rfl, by exact HB.out⟩
end Go.Proofs.Ytekoclhnfhbmeaa.P
namespace Go.Proofs.Ytekoclhnfhbmeaa.Open
open Go.RowKit Go.Proofs.YtekoclhnfhbmeaaW.PrintWords
section
variable {H : Type} {enc : TypeId × Value → H} {P : Program} {w : World}
def Opens {α : Type} (enc : TypeId × Value → H) (P : Program) (w : World) (t : TypeId) (d : Kd α) : Prop :=
 ∀ (fuel : Nat) (cs : List Value) (x : DataW H × List MemPlace), DataW.trod enc P w 0 (fun _ => true) true fuel t cs = some x → ∃ y : α, d.K w y cs
theorem opens_int {t : TypeId} {k : IntKind} (ht : P.underlying t = some (.int k)) : Opens enc P w t (Kd.int k) := by
 intro fuel cs x h; cases fuel with
 | zero => simp [DataW.trod] at h
 | succ fuel =>
  unfold DataW.trod at h; rw [ht] at h
  split at h <;> first | (cases h; done) | skip
  all_goals first | (rename_i hh; cases hh; done) | skip
  all_goals try (rename_i k' n heq; cases heq)
  all_goals
   split at h
   · rename_i hk
     obtain ⟨rfl, _⟩ := hk; exact ⟨_, rfl⟩
   · cases h
theorem each_mapM {α β : Type} {f : α → Option β} : ∀ {l : List α} {ys : List β}, l.mapM f = some ys → ∀ a ∈ l, ∃ y, f a = some y := by
 intro l
 induction l with
 | nil => intro ys _ a ha; cases ha
 | cons b l ih =>
  intro ys h a ha; rw [List.mapM_cons] at h; cases hb : f b with
  | none => rw [hb] at h; cases h
  | some z =>
   rw [hb] at h; cases hl : l.mapM f with
   | none => rw [hl] at h; cases h
   | some zs =>
    rcases List.mem_cons.1 ha with rfl | ha
    · exact ⟨z, hb⟩
    · exact ih hl a ha
theorem opens_slice {α : Type} {t e : TypeId} {d : Kd α} (ht : P.underlying t = some (.slice e)) (hs : P.cellsOf e = d.sz) (hd : Opens enc P w e d) : Opens enc P w t (Kd.slice e d) := by
 intro fuel cs x h; rcases Go.Deep.open_slice ht h with ⟨rfl, _⟩ | ⟨a, len, cap, m, n, D, Pl, rfl, hb, hl, hm, hmm, rfl, hx⟩
 · exact ⟨[], none, 0, rfl, Nat.le_refl _, rfl, Nat.zero_le _, fun h0 => absurd h0 (Nat.lt_irrefl _)⟩
 · simp only [if_true] at hmm; subst hmm; have each : ∀ i, i < len → ∃ y : α, ∃ c, c.length = d.sz ∧ d.K w y c ∧ ∀ j u, c[j]? = some u → w.cell? (a.add (i * d.sz + j)) = some u := by
    intro i hi; obtain ⟨cs', h1, h2⟩ := hx i (by omega); obtain ⟨y, hy⟩ := hd _ _ _ h2; obtain ⟨_, hlen, hc⟩ := World.cells?_some h1; refine ⟨y, cs', d.K_len hy, hy, fun j u hu => ?_⟩; have hj := (List.getElem?_eq_some_iff.1 hu).1; have := hc j (by omega); rw [hu] at this; rw [← this, hs]; unfold Addr.add; by_cases h0 : i * d.sz = 0 <;> by_cases h1 : j = 0 <;> simp [h0, h1, Nat.add_assoc]
   have pick : ∃ f : Nat → Option α, ∀ i, i < len → ∃ y, f i = some y ∧ ∃ c, c.length = d.sz ∧ d.K w y c ∧ ∀ j u, c[j]? = some u → w.cell? (a.add (i * d.sz + j)) = some u := by
    classical
    refine ⟨fun i => if hi : i < len then some (Classical.choose (each i hi)) else none, fun i hi => ⟨_, dif_pos hi, Classical.choose_spec (each i hi)⟩⟩
   obtain ⟨f, hf⟩ := pick; refine ⟨(List.range len).filterMap f, some a, m, ?_, ?_, ?_⟩
   all_goals
    have hlen : ((List.range len).filterMap f).length = len ∧ ∀ j, j < len → ((List.range len).filterMap f)[j]? = f j := by
     have key : ∀ n, n ≤ len → ((List.range n).filterMap f).length = n ∧ ∀ j, j < n → ((List.range n).filterMap f)[j]? = f j := by
      intro n
      induction n with
      | zero => exact fun _ => ⟨rfl, fun j hj => absurd hj (Nat.not_lt_zero _)⟩
      | succ n ih =>
       intro hn; obtain ⟨h1, h2⟩ := ih (by omega); obtain ⟨y, hy, _⟩ := hf n (by omega); have e : (List.range (n + 1)).filterMap f = (List.range n).filterMap f ++ [y] := by
        rw [List.range_succ, List.filterMap_append]; simp [hy]
       rw [e]; refine ⟨by simp [h1], fun j hj => ?_⟩; by_cases hj' : j < n
       · rw [List.getElem?_append_left (by omega)]; exact h2 j hj'
       · obtain rfl : j = n := by omega
         rw [List.getElem?_append_right (by omega), h1, hy]; simp
     exact key len (Nat.le_refl _)
   · rw [hlen.1]
   · rw [hlen.1]; exact hl
   · refine ⟨rfl, by rw [hlen.1]; simp only [maxLen] at hm; omega, fun _ => ⟨a, rfl, fun j p hj => ?_⟩⟩; have hjl := (List.getElem?_eq_some_iff.1 hj).1; rw [hlen.1] at hjl; rw [hlen.2 j hjl] at hj; obtain ⟨y, hy, c, h1, h2, h3⟩ := hf j hjl; rw [hy] at hj; injection hj with hj; subst hj; exact ⟨c, h1, h2, h3⟩
theorem open_struct {t : TypeId} {fs : Array Field} {fuel : Nat} {cs : List Value} {x : DataW H × List MemPlace} (ht : P.underlying t = some (.struct fs)) (h : DataW.trod enc P w 0 (fun _ => true) true fuel t cs = some x) :
 cs.length = P.cellsOf t ∧ ∃ fuel', ∀ f ∈ fs.toList, ∃ y, DataW.trod enc P w 0 (fun _ => true) true fuel' f.type ((cs.drop f.offset).take (P.cellsOf f.type)) = some y := by
 cases fuel with
 | zero => simp [DataW.trod] at h
 | succ fuel =>
  unfold DataW.trod at h; rw [ht] at h; simp only at h
  split at h
  · rename_i hl
    refine ⟨hl, fuel, fun f hf => ?_⟩; cases hm : (fs.toList.mapM fun f => DataW.trod enc P w 0 (fun _ => true) true fuel f.type ((cs.drop f.offset).take (P.cellsOf f.type))) with
    | none => rw [hm] at h; cases h
    | some ys => exact each_mapM hm f hf
  · cases h
end
end Go.Proofs.Ytekoclhnfhbmeaa.Open
namespace Go.Proofs.Ytekoclhnfhbmeaa.Open
open Go.RowKit Go.Proofs.YtekoclhnfhbmeaaW.PrintWords Go.Proofs.Ytekoclhnfhbmeaa.P Go.ChangeShapes Go.WideShapes
section
variable {H : Type} {enc : TypeId × Value → H} {w : World}
theorem cells_int : Try.prog.cellsOf 3 = 1 := by kernel_rfl
theorem cells_ints : Try.prog.cellsOf 37 = 1 := by kernel_rfl
theorem cells_rule : Try.prog.cellsOf 98 = 2 := by kernel_rfl
theorem cells_rules : Try.prog.cellsOf 22 = 1 := by kernel_rfl
theorem cells_grammar : Try.prog.cellsOf 24 = 3 := by kernel_rfl
theorem opens_i : Opens enc Try.prog w 3 (Kd.int .i64) := opens_int Try.underlying3
theorem opens_ints : Opens enc Try.prog w 37 (Kd.slice 3 (Kd.int .i64)) := opens_slice Try.underlying37 cells_int opens_i
set_option maxRecDepth 100000 in
theorem opens_rule : Opens enc Try.prog w 98 k98 := by
 intro fuel cs x h; obtain ⟨hl, n, hf⟩ := open_struct Try.underlying98 h; rw [cells_rule] at hl; have h0 := hf _ List.mem_cons_self; have h1 := hf _ (List.mem_cons_of_mem _ List.mem_cons_self)
 match cs, hl with
 | [c0, c1], _ =>
  obtain ⟨y0, h0⟩ := h0; obtain ⟨y1, h1⟩ := h1; simp only [cells_int, cells_ints] at h0 h1; obtain ⟨i, hi⟩ := opens_i n _ _ h0; obtain ⟨l, A, c, hc, hlc, hC⟩ := opens_ints n _ _ h1; have e0 : c0 = .int .i64 i := (List.cons.inj (show [c0] = [(.int .i64 i : Value)] from hi)).1; have e1 : c1 = .slice A l.length c := (List.cons.inj (show [c1] = [(.slice A l.length c : Value)] from hc)).1; subst e0 e1; exact ⟨⟨i, l⟩, k98_mk w ⟨i, l⟩ hlc hC⟩
theorem opens_rules : Opens enc Try.prog w 22 (Kd.slice 98 k98) := opens_slice Try.underlying22 cells_rule opens_rule
set_option maxRecDepth 100000 in
theorem open_grammar {v : Value} {d : DataW H} {ps : List MemPlace} {r : Reach} {b0 : Nat} (hv : Value.okWide Try.prog w r b0 24 v) (h : DataW.Trod enc Try.prog w 0 (fun _ => true) true 24 v d ps) :
 ∃ (a0 a1 : Int) (A : Option Addr) (c : Nat) (l : List S98), v = .agg #[.int .i64 a0, .int .i64 a1, .slice A l.length c] ∧ l.length ≤ c ∧ Kd.C k98 w A l.length l := by
 obtain ⟨cs, rfl, hsz⟩ := okWide_struct Try.underlying24 hv; obtain ⟨fuel, h⟩ := h; obtain ⟨hl, n, hf⟩ := open_struct Try.underlying24 h; rw [cells_grammar] at hl; have h0 := hf _ List.mem_cons_self; have h1 := hf _ (List.mem_cons_of_mem _ List.mem_cons_self); have h2 := hf _ (List.mem_cons_of_mem _ (List.mem_cons_of_mem _ List.mem_cons_self)); obtain ⟨L⟩ := cs
 match L, hl with
 | [c0, c1, c2], _ =>
  obtain ⟨y0, h0⟩ := h0; obtain ⟨y1, h1⟩ := h1; obtain ⟨y2, h2⟩ := h2; simp only [cells_int, cells_rules] at h0 h1 h2; obtain ⟨i, hi⟩ := opens_i n _ _ h0; obtain ⟨j, hj⟩ := opens_i n _ _ h1; obtain ⟨l, A, c, hc, hlc, hC⟩ := opens_rules n _ _ h2; have e0 : c0 = .int .i64 i := (List.cons.inj (show [c0] = [(.int .i64 i : Value)] from hi)).1; have e1 : c1 = .int .i64 j := (List.cons.inj (show [c1] = [(.int .i64 j : Value)] from hj)).1; have e2 : c2 = .slice A l.length c := (List.cons.inj (show [c2] = [(.slice A l.length c : Value)] from hc)).1; subst e0 e1 e2; exact ⟨i, j, A, c, l, rfl, hlc, hC⟩
end
end Go.Proofs.Ytekoclhnfhbmeaa.Open
namespace Go.Proofs.Ytekoclhnfhbmeaa.fnExactShortWords
open Go.ChangeShapes Go.WideShapes Go.ChangeAt Go.RowKit
open Go.ChangeMaps (open_string shut_string)
set_option linter.unusedVariables false
theorem own : ownKnob Try.prog.godebug = none := by kernel_rfl
theorem laidOut : laidOutB Try.prog = true := by kernel_rfl
set_option maxRecDepth 100000 in
theorem lifted (os : Os) (started : os.Started) (H : Type) (enc : TypeId × Value → H) :
 ReturnsInHanded {} Try.checked os 9 .any (Rows.fnExactShortWordsSpec.pre6 enc Try.prog Try.f9 Rows.fnExactShortWordsRow.domain false) (Rows.fnExactShortWordsSpec.post enc Try.prog Try.f9 false true false false) := by
 refine returnsInHanded_of_change_sized (C := Try.checked) own started (by kernel_rfl) Try.func9
  (ChangeSpec.witness6 (enc := enc) (C := Try.checked) false ⟨#[], #[.agg #[.int .i64 0, .int .i64 0, .slice none 0 0], .int .i64 0], []⟩ 8 (by kernel_rfl) (by kernel_rfl) (by kernel_rfl) (by kernel_rfl)) ?_
 intro W base args ds gs before hval0 hW hcnd hsz0 _; have hval : ∀ (j : Nat) t v, Try.f9.params[j]? = some t → args[j]? = some v → Value.okWide Try.prog W .any base t v := hval0; have hW' := hW; obtain ⟨p, q, hA0, hV, rfl, hfz, hnd⟩ := hW; have hA : DataW.TrodAll enc Try.prog W 0 (fun _ => true) true Try.f9.params.toList args.toList ds p := hA0; rw [Try.params9] at hA hval; obtain ⟨v0, vs0, d0, ds0, p0, q0, hargs, rfl, rfl, h0, r0⟩ := trodAll_cons hA; obtain ⟨v1, vs1, d1, ds1, p1, q1, rfl, rfl, rfl, h1, r1⟩ := trodAll_cons r0; obtain ⟨rfl, rfl, rfl⟩ := trodAll_nil r1; obtain rfl : args = #[v0, v1] := by cases args; simp_all
 obtain ⟨rfl, rfl⟩ := trodVars_none hV; have lt0 : ∀ x ∈ p0, x.block < W.heap.size := by obtain ⟨m, hm⟩ := h0; exact DataW.trod_lt m _ _ _ hm
 have k0 := h0; obtain ⟨a0_0, a0_1, A0_2, c0_2, l0_2, rfl, hc0_2, hr0_2⟩ := Open.open_grammar (hval 0 24 v0 rfl rfl) h0; obtain ⟨a1, rfl, rfl, rfl, w1⟩ := open_int Try.underlying3 (hval 1 3 v1 rfl rfl) h1; clear hA0 hval0 hsz0; refine (P.holds_FnExactShortWords W a0_0 a0_1 A0_2 c0_2 l0_2 hr0_2 hc0_2 a1).mono fun e W' ⟨he, bel⟩ => ?_
 subst he; exact ⟨_, rfl, _, _, _, [], _, [], hW', trodAll_mk1 (shut_bool Try.underlying4 _), (trodAll_cons_mk (Below.trod laidOut (by kernel_rfl) (of_decide_eq_true (by kernel_rfl)) k0 bel lt0) (trodAll_cons_mk (shut_int Try.underlying3 w1) trodAll_mk0)), rfl, bel.frame _, fun h => by cases h⟩
theorem over : Rows.fnExactShortWordsRow.holds Try.pinned (OpenSpec.ofChange Rows.fnExactShortWordsSpec) :=
 OpenClaim.holds_of_wide 9 Try.f9 rfl rfl rfl rfl rfl rfl rfl ⟨rfl, rfl, rfl, rfl, rfl⟩ rfl rfl rfl rfl rfl (by kernel_rfl) Try.func9 (by kernel_rfl)
  (of_decide_eq_true (by kernel_rfl)) (by unfold Func.isWrapper; first | (rw [if_pos (by decide +kernel)]; kernel_rfl) | (rw [if_neg (by decide +kernel)]; exact ⟨rfl, rfl⟩))
  (fun os started H enc _ => lifted os started H enc)
theorem proved : Rows.FnExactShortWordsSaid := over
#print axioms proved
end Go.Proofs.Ytekoclhnfhbmeaa.fnExactShortWords
namespace Go.Proofs.Ytekoclhnfhbmeaa
theorem fnExactShortWords_holds : Rows.FnExactShortWordsSaid := fnExactShortWords.proved
end Go.Proofs.Ytekoclhnfhbmeaa
