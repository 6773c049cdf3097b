/- A part of the proofs of some laws of this seat (words of the print and texts of this session, without what these laws do not use). -/
import Derived.Test.YtodacikpbcgndaaTFnExactReadGrammarp0
import Derived.Shelf.Abstract
import Derived.ArgAppend
import Derived.Test.YtodacikpbcgndaaProg
import Derived.Shelf.Lays
import Derived.BigQuiet
import Derived.Shelf.Small.Strs
namespace Go.Proofs.Ytodacikpbcgndaa.P
open Go.RowKit Go.Proofs.YtodacikpbcgndaaW.PrintWords Go.Proofs.YtodacikpbcgndaaW.PrintLast Go.Proofs.YtodacikpbcgndaaW.PrintMore
set_option linter.unusedVariables false
set_option linter.unusedSimpArgs false
def ramp (n : Int) : Nat → List Int
 | 0 => []
 | m + 1 => ramp n m ++ [n + m]
theorem ramp_len (n : Int) (m : Nat) : (ramp n m).length = m := by
 induction m with
 | zero => rfl
 | succ m ih => simp [ramp, ih]
theorem ramp_get (n : Int) (m i : Nat) (h : i < m) : (ramp n m).getD i 0 = n + i := by
 induction m with
 | zero => omega
 | succ m ih =>
  simp only [ramp, List.getD_eq_getElem?_getD]; by_cases e : i < m
  · rw [List.getElem?_append_left (by rw [ramp_len]; exact e), ← List.getD_eq_getElem?_getD]; exact ih e
  · obtain rfl : i = m := by omega
    rw [List.getElem?_append_right (by rw [ramp_len]; omega)]; simp [ramp_len]
theorem markIntS_loop (l : List Int) (hl : l.length ≤ 1152921504606846976) (n : Int) (hn : 0 ≤ n) (hn' : n ≤ 1152921504606846976) (d : Nat) : ∀ (k i : Nat), i ≤ l.length → l.length - i = d → d < k →
 laws_markIntS.l0 k (ramp n i ++ l.drop i) (n + i) i = some (n + (l.length : Int), ramp n l.length) := by
 induction d with
 | zero =>
  intro k i h1 hd hk; obtain ⟨k, rfl⟩ : ∃ m, k = m + 1 := ⟨k - 1, by omega⟩
  obtain rfl : i = l.length := by omega
  simp only [laws_markIntS.l0]; rw [if_neg (by simp [ramp_len])]; simp
 | succ d ih =>
  intro k i h1 hd hk; obtain ⟨k, rfl⟩ : ∃ m, k = m + 1 := ⟨k - 1, by omega⟩
  simp only [laws_markIntS.l0]; rw [if_pos (by simp [ramp_len]; omega), if_pos (by omega)]; have e1 : wrap64 ((i : Int) + 1) = ((i + 1 : Nat) : Int) := by unfold wrap64; omega
  have e2 : wrap64 (n + (i : Int) + 1) = n + ((i + 1 : Nat) : Int) := by unfold wrap64; omega
  have e3 : (ramp n i ++ l.drop i).set (i : Int).toNat (n + i) = ramp n (i + 1) ++ l.drop (i + 1) := by
   rw [getD_drop l i 0 (by omega), Int.toNat_natCast, set_mid _ _ _ _ _ (ramp_len n i)]; simp [ramp]
  rw [e1, e2, e3]; exact ih k (i + 1) (by omega) (by omega) (by omega)
theorem markIntS_eq (l : List Int) (hl : l.length ≤ 1152921504606846976) (n : Int) (hn : 0 ≤ n) (hn' : n ≤ 1152921504606846976) (k : Nat) (hk : l.length < k) : laws_markIntS.f k l n = some (n + (l.length : Int), ramp n l.length) := by
 have := markIntS_loop l hl n hn hn' l.length k 0 (by omega) (by omega) hk; unfold laws_markIntS.f; simpa [ramp] using this
theorem heldIntS_loop (m : Nat) (hm : m ≤ 1152921504606846976) (n : Int) (hn : 0 ≤ n) (hn' : n ≤ 1152921504606846976) (d : Nat) : ∀ (k i : Nat), i ≤ m → m - i = d → d < k →
 laws_heldIntS.l0 k (ramp n m) (n + i) i = some (n + (m : Int)) := by
 induction d with
 | zero =>
  intro k i h1 hd hk; obtain ⟨k, rfl⟩ : ∃ m, k = m + 1 := ⟨k - 1, by omega⟩
  obtain rfl : i = m := by omega
  simp only [laws_heldIntS.l0]; rw [if_neg (by simp [ramp_len])]
 | succ d ih =>
  intro k i h1 hd hk; obtain ⟨k, rfl⟩ : ∃ m, k = m + 1 := ⟨k - 1, by omega⟩
  simp only [laws_heldIntS.l0]; rw [if_pos (by simp [ramp_len]; omega), if_pos (by omega), if_pos (by unfold rd; simpa using ramp_get n m i (by omega))]; have e1 : wrap64 ((i : Int) + 1) = ((i + 1 : Nat) : Int) := by unfold wrap64; omega
  have e2 : wrap64 (n + (i : Int) + 1) = n + ((i + 1 : Nat) : Int) := by unfold wrap64; omega
  rw [e1, e2]; exact ih k (i + 1) (by omega) (by omega) (by omega)
theorem heldIntS_eq (m : Nat) (hm : m ≤ 1152921504606846976) (n : Int) (hn : 0 ≤ n) (hn' : n ≤ 1152921504606846976) (k : Nat) (hk : m < k) : laws_heldIntS.f k (ramp n m) n = some (n + (m : Int)) := by
 have := heldIntS_loop m hm n hn hn' m k 0 (by omega) (by omega) hk; unfold laws_heldIntS.f; simpa using this
def szR : List S56 → Nat
 | [] => 0
 | r :: l => 1 + r.f1.length + szR l
def mkR : List S56 → Int → List S56
 | [], _ => []
 | r :: l, a => ⟨a, ramp (a + 1) r.f1.length⟩ :: mkR l (a + 1 + r.f1.length)
theorem mkR_len (l : List S56) : ∀ a, (mkR l a).length = l.length := by
 induction l with
 | nil => intro a; rfl
 | cons r l ih => intro a; simp [mkR, ih]
theorem szR_append (l m : List S56) : szR (l ++ m) = szR l + szR m := by
 induction l with
 | nil => simp [szR]
 | cons r l ih => simp only [List.cons_append, szR, ih]; omega
theorem mkR_append (l m : List S56) : ∀ a, mkR (l ++ m) a = mkR l a ++ mkR m (a + szR l) := by
 induction l with
 | nil => intro a; simp [szR, mkR]
 | cons r l ih => intro a; simp only [List.cons_append, mkR, szR, ih]; congr 3; omega
theorem szR_take (l : List S56) (i : Nat) : szR (l.take i) ≤ szR l := by
 have := szR_append (l.take i) (l.drop i); rw [List.take_append_drop] at this; omega
theorem szR_len (l : List S56) : l.length ≤ szR l := by
 induction l with
 | nil => simp [szR]
 | cons r l ih => simp only [List.length_cons, szR]; omega
theorem szR_small (l : List S56) (hs : ∀ i : Nat, i < l.length → (rd_T56 l i).f1.length ≤ 1048576) : szR l ≤ l.length * 1048577 := by
 induction l with
 | nil => simp [szR]
 | cons r l ih =>
  have h0 := hs 0 (by simp); have h1 := ih (fun i hi => by
   have := hs (i + 1) (by simp; omega); have e : rd_T56 (r :: l) ((i + 1 : Nat) : Int) = rd_T56 l (i : Int) := by unfold rd_T56; simp
   rw [e] at this; exact this)
  have e0 : (rd_T56 (r :: l) ((0 : Nat) : Int)) = r := by unfold rd_T56; simp
  rw [e0] at h0; simp only [szR, List.length_cons]; omega
theorem szR_bound {l : List S56} (hs : smallI l) : (szR l : Int) ≤ 1152921504606846 := by
 have h1 := szR_small l hs.2; have h2 := hs.1; have : l.length * 1048577 ≤ 1048576 * 1048577 := Nat.mul_le_mul_right _ h2; omega
set_option maxHeartbeats 4000000 in
set_option maxRecDepth 100000 in
theorem markRuleS_calls (P0_ : Nat → Prop) (u : Value) (l0 : List S56) (a1 : Int) (w0 w : World) (hB : Below w0.heap.size w0 w) (ho0 : Kd.S k56 56 w w0.heap.size P0_ u l0)
 (ha : 0 ≤ a1) (hs : a1 + szR l0 ≤ 1152921504606846976) :
 Calls Try.prog 25 #[u, .int .i64 a1] w fun e w' => e = .returned (.int .i64 (a1 + szR l0)) ∧ Kd.S k56 56 w' w0.heap.size P0_ u (mkR l0 a1) ∧ Below w0.heap.size w0 w' ∧ Kept w w' P0_ := by
 have HO := zA ho0; have HB := zA hB; have HW := zA hB.size; have hlen := szR_len l0; have HS := zA hs; clear ho0 hB hs; go_enter Try.func25, Try.ntmps25; go_wp2; go_loopg [1, 5] l0.length (fun gg s1 s5 wr => ∃ kk : Nat, kk ≤ l0.length ∧ l0.length - kk ≤ gg ∧ s5 = .int .i64 kk ∧ s1 = .int .i64 (a1 + szR (l0.take kk)) ∧ Aside0 (Kd.S k56 56 wr w0.heap.size P0_ u (mkR (l0.take kk) a1 ++ l0.drop kk)) ∧ Aside0 (Below w0.heap.size w0 wr) ∧ Aside0 (Kept w wr P0_))
 case atStart => exact ⟨0, Nat.zero_le _, by omega, rfl, by simp [szR], ⟨by simpa [mkR] using HO.out⟩, HB, ⟨Kept.refl _ _⟩⟩
 case round =>
  clear HO HB; obtain ⟨kk, hkk, hg, rfl, rfl, HO, HB, HK⟩ := hrel; have hb1 := szR_take l0 kk; by_cases hlt : kk < l0.length
  · obtain ⟨y, hy⟩ : ∃ y, y = l0.getD kk z56 := ⟨_, rfl⟩
    have ed := getD_drop l0 kk z56 hlt; have et := take_getD l0 kk z56 hlt; rw [← hy] at ed et; have esz : szR (l0.take (kk + 1)) = szR (l0.take kk) + (1 + y.f1.length) := by rw [et, szR_append]; simp [szR]
    have hb2 := szR_take l0 (kk + 1); have emk : ∀ z, z = (⟨a1 + szR (l0.take kk), ramp (a1 + szR (l0.take kk) + 1) y.f1.length⟩ : S56) → (mkR (l0.take kk) a1 ++ l0.drop kk).set kk z = mkR (l0.take (kk + 1)) a1 ++ l0.drop (kk + 1) := by
     rintro z rfl; rw [ed, set_mid _ _ _ _ _ (by rw [mkR_len, List.length_take]; omega), et, mkR_append]; simp [mkR]
    have elen : (mkR (l0.take kk) a1 ++ l0.drop kk).length = l0.length := by rw [List.length_append, mkR_len, List.length_take, List.length_drop]; omega
    have eget : (mkR (l0.take kk) a1 ++ l0.drop kk).getD kk z56 = y := by
     rw [ed, List.getD_eq_getElem?_getD, List.getElem?_append_right (by rw [mkR_len, List.length_take]; omega), mkR_len, List.length_take, Nat.min_eq_left hkk, Nat.sub_self]; rfl
    have EM := zA emk; have ES := zA esz; have LN := zA elen; clear emk esz ed et hy; obtain ⟨xs, hxs⟩ : ∃ xs, xs = mkR (l0.take kk) a1 ++ l0.drop kk := ⟨_, rfl⟩
    rw [← hxs] at HO EM LN eget; obtain ⟨go, co, eo, gb, gl, cl, HG⟩ := Kd.S_form HO.out (by rw [LN.out]; omega); subst eo; obtain ⟨oki, c, hcl, hM, hcc, hfr, hoki, hH⟩ := Kd.S_elem HO.out z56 (kk : Int) (by omega) (by rw [LN.out]; omega); rw [Int.toNat_natCast, eget] at hM; obtain ⟨v1, rfl, hR⟩ := k56_openM hM; have hx0 : wr.cell? ⟨go, kk * 2, none⟩ = some (.int .i64 y.f0) := hcc 0 _ rfl; have hx1 : wr.cell? ⟨go, kk * 2 + 1, none⟩ = some v1 := hcc 1 _ rfl; have hf0 : wr.frozen? ⟨go, kk * 2, none⟩ = false := hfr 0; have hP : P0_ go := (Kd.S_R HO.out).1 go rfl; obtain ⟨s, hs⟩ : ∃ s : Int, s = a1 + szR (l0.take kk) := ⟨_, rfl⟩
    rw [← hs] at EM; rw [← hs]; have hs0 : 0 ≤ s := by omega
    have hs1 : s ≤ 1152921504606846976 := by have := HS.out; omega
    have hyl : y.f1.length ≤ 1152921504606846976 := by have := HS.out; have := ES.out; omega
    have hs2 : s + 1 ≤ 1152921504606846976 := by have := HS.out; have := ES.out; omega
    have hsz : xs.length = l0.length := LN.out; have hd : decide (kk < xs.length) = true := decide_eq_true (by omega); have hlt2 : kk < xs.length := by omega
    have hmx : xs.length ≤ 9223372036854775807 := by have := HS.out; omega
    have GB := zA gb; have HH := zA hH; have HR := zA hR; have OI := zA hoki; have PG := zA hP; have L := zA hlt; have SV := zA hs; have EMM := EM; clear hcl hcc hfr hM hH hR hoki hP gb gl HG eget hs hlt hxs EM hsz; go_wp2_with (go_at_call 56; refine (laws_markIntS.calls (y.f1.length + 1) oki v1 y.f1 (s + 1) _ _ w0 _ (zE HB.out GB.out) (Kd.R_far HR.out (fun k hk => (OI.out k hk).2) _) (markIntS_eq y.f1 hyl (s + 1) (by omega) hs2 (y.f1.length + 1) (by omega))).mono ?_; rintro e w' ⟨rfl, ho, hb, hk⟩; have NB := zA hb; have NO := zA ho; have NK := zA hk; clear ho hb hk)
    go_roundg (l0.length - (kk + 1))
    case measure => have := L.out; omega
    case rel =>
     refine ⟨kk + 1, by have := L.out; omega, by omega, by go_num, ?_, ?_, NB, ?_⟩
     · rw [ES.out]; have := SV.out; congr 1; omega
     · have H1 := (Kd.H_seg HH.out (by omega) (by omega) (seg := [.int .i64 s]) (j := 0) (show 0 + 1 ≤ 2 by decide) (by intro q hq; rw [List.mem_singleton.1 hq]; rfl)).1; have H2 := Kd.H_kept H1 NK.out (fun k _ hno hs => hno hs); have hR1 := HR.out.1; have H3 := Kd.H_back H2 (x' := ⟨s, ramp (s + 1) y.f1.length⟩) (k56_mkM _ _ _ (⟨s, ramp (s + 1) y.f1.length⟩ : S56) (Kd.R_mono (Kd.R_tight rfl NO.out) (fun q hq => hR1 q hq.symm))) (fun _ h => h); rw [Int.toNat_natCast, EMM.out _ rfl] at H3; exact ⟨H3⟩
     · exact ⟨(Kept.setCell HK.out (.inl PG.out) _).then_ NK.out (fun k hk => .inl (OI.out k hk).1)⟩
  · have e : kk = l0.length := by omega
    obtain ⟨xs, hxs⟩ : ∃ xs, xs = mkR (l0.take kk) a1 ++ l0.drop kk := ⟨_, rfl⟩
    have hfin : xs = mkR l0 a1 := by rw [hxs, e, List.take_of_length_le (Nat.le_refl _), List.drop_of_length_le (Nat.le_refl _), List.append_nil]
    have hsum : szR (l0.take kk) = szR l0 := by rw [e, List.take_of_length_le (Nat.le_refl _)]
    have hln : xs.length = l0.length := by rw [hfin, mkR_len]
    rw [← hxs] at HO; obtain ⟨A, c, eu⟩ := Kd.R_slice (Kd.S_R HO.out); subst eu; have hd : decide (kk < xs.length) = false := decide_eq_false (by omega); have F := zA hfin; have SU := zA hsum; clear hfin hxs hlt e hln hsum; go_wp2; go_ret; refine ⟨by rw [← SU.out]; rfl, by rw [← F.out]; exact HO.out, HB.out, HK.out⟩
set_option maxHeartbeats 4000000 in
set_option maxRecDepth 100000 in
theorem markGrammar_calls (P0_ : Nat → Prop) (a0 a1 : Int) (u : Value) (l0 : List S56) (k : Int) (w0 w : World) (hB : Below w0.heap.size w0 w) (ho0 : Kd.S k56 56 w w0.heap.size P0_ u l0)
 (ha : 0 ≤ k) (hs : k + szR l0 ≤ 1152921504606846976) :
 Calls Try.prog 12 #[.agg #[.int .i64 a0, .int .i64 a1, u], .int .i64 k] w fun e w' => e = .returned (.int .i64 (k + szR l0)) ∧ Kd.S k56 56 w' w0.heap.size P0_ u (mkR l0 k) ∧ Below w0.heap.size w0 w' ∧ Kept w w' P0_ := by
 obtain ⟨A, c, eu⟩ := Kd.R_slice (Kd.S_R ho0); subst eu; have hu := Try.underlying30; have HO := zA ho0; have HB := zA hB; have HS := zA hs; have HA := zA ha; clear ho0 hB hs ha; go_enter Try.func12, Try.ntmps12; go_wp2_with (go_at_call 25; refine (markRuleS_calls P0_ _ l0 k w0 _ (by repeat (first | exact HB.out | apply zB)) (by repeat (first | exact HO.out | apply Kd.S_alloc)) HA.out HS.out).mono ?_; rintro e w' ⟨rfl, ho, hb, hk⟩; have NB := zA hb; have NO := zA ho; have NK := zA hk; clear ho hb hk); go_ret; exact ⟨rfl, NO.out, NB.out, (Kept.alloc (Kept.refl _ _) _).then_ NK.out (fun q hq => .inl hq)⟩
end Go.Proofs.Ytodacikpbcgndaa.P
namespace Go.Proofs.Ytodacikpbcgndaa.P
open Go.RowKit Go.Proofs.YtodacikpbcgndaaW.PrintWords Go.Proofs.YtodacikpbcgndaaW.PrintLast Go.Proofs.YtodacikpbcgndaaW.PrintMore
attribute [local go_sem] max2_int min2_int max_two min_two max_three min_three max_four min_four
set_option linter.unusedVariables false
set_option linter.unusedSimpArgs false
def laws_heldRuleS.l0 : Nat → List (S56) → Int → Int → Option (Int)
 | 0, _, _, _ => none
 | k + 1, x0, x1, x5 => if x5 < (x0.length : Int) then (if 0 ≤ x5 then (if ((rd_T56 x0 x5).f0) = x1 then ((laws_heldIntS.f k ((rd_T56 x0 x5).f1) (wrap64 (x1 + 1))).bind fun t103 => (if t103 < 0 then (some (-1)) else (laws_heldRuleS.l0 k x0 t103 (wrap64 (x5 + 1))))) else (some (-1))) else (none)) else (some x1)
def laws_heldRuleS.f (k : Nat) (l0 : List (S56)) (a1 : Int) : Option (Int) := laws_heldRuleS.l0 k l0 a1 0
set_option maxHeartbeats 8000000 in
set_option maxRecDepth 100000 in
theorem laws_heldRuleS.calls (k : Nat) (A0 : Option Addr) (c0 : Nat) (l0 : List (S56)) (a1 : Int) (r : Int) (w : World) (hr0 : Kd.C k56 w A0 l0.length l0) (hc0 : l0.length ≤ c0) (h : laws_heldRuleS.f k l0 a1 = some r) :
 Calls Try.prog 26 #[.slice A0 l0.length c0, .int .i64 a1] w fun e w' => e = .returned (.int .i64 r) ∧ Drawn0 w w' := by
 have HR0 := zA hr0; have HC0 := zA hc0; clear hr0 hc0; have H : (laws_heldRuleS.l0 k l0 a1 0) = some r := h; clear h; have H' := zA H; clear H; go_enter Try.func26, Try.ntmps26; go_wp2; go_loopg [1, 5] k (fun kq v1 v5 w' => ∃ (x1_1 : Int) (x5_1 : Int), v1 = .int .i64 x1_1 ∧ v5 = .int .i64 x5_1 ∧ Aside0 (laws_heldRuleS.l0 kq l0 x1_1 x5_1 = some r) ∧ Aside0 (kq ≤ k) ∧ Drawn0 w w')
 case atStart => exact ⟨(a1), (0), (by first | rfl | (simp; done) | (simp [*]; done)), (by first | rfl | (simp; done) | (simp [*]; done)), H', ⟨Nat.le_refl _⟩, by repeat (first | exact Drawn0.refl _ | apply Drawn0.step)⟩
 case round =>
  clear H'; (try clear c2); (try clear p2); obtain ⟨x1_1, x5_1, rfl, rfl, HA, HK1, ⟨m1, rfl⟩⟩ := hrel; cases gk with
  | zero => exact absurd HA.out (by simp [laws_heldRuleS.l0])
  | succ k1 =>
   have H := HA.out; clear HA; simp only [laws_heldRuleS.l0] at H; by_cases c3 : x5_1 < (l0.length : Int)
   · rw [if_pos c3] at H; have c3b0 : decide (x5_1 < (l0.length : Int)) = true := decide_eq_true c3; clear c3; by_cases c4 : 0 ≤ x5_1
     · rw [if_pos c4] at H; have c4b0 : decide (0 ≤ x5_1) = true := decide_eq_true c4; clear c4; by_cases c5 : ((rd_T56 l0 x5_1).f0) = x1_1
       · rw [if_pos c5] at H; have c5b0 : (((rd_T56 l0 x5_1).f0) == x1_1) = true := beq_iff_eq.mpr c5; have c5b1 : (((rd_T56 l0 x5_1).f0) != x1_1) = false := bne_eq_false_iff_eq.mpr c5; clear c5; replace H := Option.bind_eq_some_iff.mp H; obtain ⟨t103, A60, H⟩ := H; replace H : (if t103 < 0 then (some (-1)) else (laws_heldRuleS.l0 k1 l0 t103 (wrap64 (x5_1 + 1)))) = some r := H; have A6 := zA A60; clear A60; by_cases c7 : t103 < 0
         · rw [if_pos c7] at H; have c7b0 : decide (t103 < 0) = true := decide_eq_true c7; clear c7; obtain rfl := Option.some.inj H; have p101 : 0 ≤ (x5_1 : Int) := of_decide_eq_true (by assumption); have q101 : x5_1 < (l0.length : Int) := of_decide_eq_true (by assumption); obtain ⟨ad101, A101_1, c101_1, e101, hx101_0, hx101_1, hl101_1, hi101_1⟩ := at_T56 HR0.out x5_1 p101 q101; cases e101; have HR101_1 := zA hi101_1; have HC101_1 := zA hl101_1; clear hi101_1 hl101_1; replace p101 := eq_true p101; replace q101 := eq_true q101; have p102 : 0 ≤ (x5_1 : Int) := of_decide_eq_true (by assumption); have q102 : x5_1 < (l0.length : Int) := of_decide_eq_true (by assumption); obtain ⟨ad102, A102_1, c102_1, e102, hx102_0, hx102_1, hl102_1, hi102_1⟩ := at_T56 HR0.out x5_1 p102 q102; obtain rfl : ad101 = ad102 := (by injection e102)
           have HR102_1 := zA hi102_1; have HC102_1 := zA hl102_1; clear hi102_1 hl102_1; replace p102 := eq_true p102; replace q102 := eq_true q102; have ea_ := Option.some.inj (hx101_1.symm.trans hx102_1); injection ea_ with ea_ en_ ec_; subst ea_; subst ec_; clear en_; go_wp2_with (first | ((with_reducible refine gate_callee (f := 57) rfl ?_); refine goesL_ (some 27) rfl rfl Try.func57 (by kernel_rfl) rfl #[.slice A101_1 ((rd_T56 l0 x5_1).f1).length c101_1, .int .i64 (wrap64 (x1_1 + 1))] rfl (by (try simp only [List.map_toArray, List.map_cons, List.map_nil]); first | done | rfl | (simp only [List.length_drop, List.length_take]; rfl)) ?_; (with_reducible refine (laws_heldIntS.calls k1 _ _ ((rd_T56 l0 x5_1).f1) (wrap64 (x1_1 + 1)) t103 _ ?side1 ?side2 A6.out).mono ?_); (case side1 => repeat (first | exact HR102_1.out | refine Kd.C_alloc ?_ _ | refine Kd.C_drewN ?_ _ | refine Kd.C_drew ?_)); (case side2 => exact HC102_1.out); rintro e w' ⟨rfl, ⟨nd, rfl⟩⟩; refine ⟨_, rfl, ?_⟩)); go_ret; exact ⟨by first | rfl | (simp; done) | (simp [*]; done), by repeat (first | exact Drawn0.refl _ | apply Drawn0.step)⟩
         · rw [if_neg c7] at H; have c7b0 : decide (t103 < 0) = false := decide_eq_false c7; clear c7; have H' := zA H; clear H; have p101 : 0 ≤ (x5_1 : Int) := of_decide_eq_true (by assumption); have q101 : x5_1 < (l0.length : Int) := of_decide_eq_true (by assumption); obtain ⟨ad101, A101_1, c101_1, e101, hx101_0, hx101_1, hl101_1, hi101_1⟩ := at_T56 HR0.out x5_1 p101 q101; cases e101; have HR101_1 := zA hi101_1; have HC101_1 := zA hl101_1; clear hi101_1 hl101_1; replace p101 := eq_true p101; replace q101 := eq_true q101; have p102 : 0 ≤ (x5_1 : Int) := of_decide_eq_true (by assumption); have q102 : x5_1 < (l0.length : Int) := of_decide_eq_true (by assumption); obtain ⟨ad102, A102_1, c102_1, e102, hx102_0, hx102_1, hl102_1, hi102_1⟩ := at_T56 HR0.out x5_1 p102 q102; obtain rfl : ad101 = ad102 := (by injection e102)
           have HR102_1 := zA hi102_1; have HC102_1 := zA hl102_1; clear hi102_1 hl102_1; replace p102 := eq_true p102; replace q102 := eq_true q102; have ea_ := Option.some.inj (hx101_1.symm.trans hx102_1); injection ea_ with ea_ en_ ec_; subst ea_; subst ec_; clear en_; go_wp2_with (first | ((with_reducible refine gate_callee (f := 57) rfl ?_); refine goesL_ (some 27) rfl rfl Try.func57 (by kernel_rfl) rfl #[.slice A101_1 ((rd_T56 l0 x5_1).f1).length c101_1, .int .i64 (wrap64 (x1_1 + 1))] rfl (by (try simp only [List.map_toArray, List.map_cons, List.map_nil]); first | done | rfl | (simp only [List.length_drop, List.length_take]; rfl)) ?_; (with_reducible refine (laws_heldIntS.calls k1 _ _ ((rd_T56 l0 x5_1).f1) (wrap64 (x1_1 + 1)) t103 _ ?side1 ?side2 A6.out).mono ?_); (case side1 => repeat (first | exact HR102_1.out | refine Kd.C_alloc ?_ _ | refine Kd.C_drewN ?_ _ | refine Kd.C_drew ?_)); (case side2 => exact HC102_1.out); rintro e w' ⟨rfl, ⟨nd, rfl⟩⟩; refine ⟨_, rfl, ?_⟩))
           go_roundg k1
           case measure => have := HK1.out; omega
           case rel => exact ⟨(t103), (wrap64 (x5_1 + 1)), (by first | rfl | (simp; done) | (simp [*]; done)), (by first | rfl | (simp; done) | (simp [*]; done)), H', ⟨by have := HK1.out; omega⟩, by repeat (first | exact Drawn0.refl _ | apply Drawn0.step)⟩
       · rw [if_neg c5] at H; have c5b0 : (((rd_T56 l0 x5_1).f0) == x1_1) = false := beq_eq_false_iff_ne.mpr c5; have c5b1 : (((rd_T56 l0 x5_1).f0) != x1_1) = true := bne_iff_ne.mpr c5; obtain rfl := Option.some.inj H; have p101 : 0 ≤ (x5_1 : Int) := of_decide_eq_true (by assumption); have q101 : x5_1 < (l0.length : Int) := of_decide_eq_true (by assumption); obtain ⟨ad101, A101_1, c101_1, e101, hx101_0, hx101_1, hl101_1, hi101_1⟩ := at_T56 HR0.out x5_1 p101 q101; cases e101; have HR101_1 := zA hi101_1; have HC101_1 := zA hl101_1; clear hi101_1 hl101_1; replace p101 := eq_true p101; replace q101 := eq_true q101; go_wp2; go_ret; exact ⟨by first | rfl | (simp; done) | (simp [*]; done), by repeat (first | exact Drawn0.refl _ | apply Drawn0.step)⟩
     · rw [if_neg c4] at H; exact absurd H (by simp)
   · rw [if_neg c3] at H; have c3b0 : decide (x5_1 < (l0.length : Int)) = false := decide_eq_false c3; clear c3; obtain rfl := Option.some.inj H; go_wp2; go_ret; exact ⟨by first | rfl | (simp; done) | (simp [*]; done), by repeat (first | exact Drawn0.refl _ | apply Drawn0.step)⟩
def laws_heldGrammar.f (k : Nat) (a0_0 : Int) (a0_1 : Int) (l0_2 : List (S56)) (a1 : Int) : Option (Int) := (laws_heldRuleS.f k l0_2 a1).bind fun t102 => (if t102 < 0 then (some (-1)) else (some t102))
set_option maxHeartbeats 8000000 in
set_option maxRecDepth 100000 in
theorem laws_heldGrammar.calls (k : Nat) (a0_0 : Int) (a0_1 : Int) (A0_2 : Option Addr) (c0_2 : Nat) (l0_2 : List (S56)) (a1 : Int) (r : Int) (w : World) (hr0_2 : Kd.C k56 w A0_2 l0_2.length l0_2) (hc0_2 : l0_2.length ≤ c0_2) (h : laws_heldGrammar.f k a0_0 a0_1 l0_2 a1 = some r) :
 Calls Try.prog 13 #[.agg #[.int .i64 a0_0, .int .i64 a0_1, .slice A0_2 l0_2.length c0_2], .int .i64 a1] w fun e w' => e = .returned (.int .i64 r) ∧ Below w.heap.size w w' := by
 have hu30 := Try.underlying30; have HR0_2 := zA hr0_2; have HC0_2 := zA hc0_2; clear hr0_2 hc0_2; have HB := zA (Below.refl w.heap.size w); have H : ((laws_heldRuleS.f k l0_2 a1).bind fun t102 => (if t102 < 0 then (some (-1)) else (some t102))) = some r := h; clear h; replace H := Option.bind_eq_some_iff.mp H; obtain ⟨t102, A30, H⟩ := H; replace H : (if t102 < 0 then (some (-1)) else (some t102)) = some r := H; have A3 := zA A30; clear A30; by_cases c4 : t102 < 0
 · rw [if_pos c4] at H; have c4b0 : decide (t102 < 0) = true := decide_eq_true c4; clear c4; obtain rfl := Option.some.inj H; go_enter Try.func13, Try.ntmps13; go_wp2_with (first | ((with_reducible refine gate_dst (N := 2) rfl ?_); refine box_event ?hg (N := 2) ?hd (cs := #[.int .i64 a0_0, .int .i64 a0_1, .slice A0_2 l0_2.length c0_2]) (t := 30) ?hr ?_; (case hd => rfl); (case hg => rfl); (case hr => first | (go_simp; done) | (go_simp; rfl)); intro gb101 hg w5 hbox hb; have n0_ := zA (zG (by repeat (first | (with_reducible first | exact HB.out | apply zB | apply zC | apply zD) | exact HB.out)) hb); have n1_ := zA (hbox); have n2_ := zA ((by rw [hg]; exact (zF (by repeat (first | (with_reducible first | exact HB.out | apply zB | apply zC | apply zD) | exact HB.out))) : w.heap.size ≤ gb101)); have n3_ := zA ((by rw [hg]; exact (zF (by repeat (first | (with_reducible first | exact HB.out | apply zB | apply zC | apply zD) | exact HB.out))) : w.heap.size ≤ gb101)); clear HB; have HB := n0_; have BK101 := n1_; have GW101 := n2_; have GE101 := n3_; clear n0_ n1_ n2_ n3_; clear hb hbox hg; have hcz6_0 : w5.cell? ⟨gb101, 0, none⟩ = some (.int .i64 a0_0) := (zK BK101.out 0).trans rfl; have hcz6_1 : w5.cell? ⟨gb101, 1, none⟩ = some (.int .i64 a0_1) := (zK BK101.out 1).trans rfl; have hcz6_2 : w5.cell? ⟨gb101, 2, none⟩ = some (.slice A0_2 l0_2.length c0_2) := (zK BK101.out 2).trans rfl; have hfz6_0 := zL BK101.out 0; have hfz6_1 := zL BK101.out 1; have hfz6_2 := zL BK101.out 2) | ((with_reducible refine gate_callee (f := 26) rfl ?_); refine goesL_ (some 8) rfl rfl Try.func26 (by kernel_rfl) rfl #[.slice A0_2 l0_2.length c0_2, .int .i64 a1] rfl (by (try simp only [List.map_toArray, List.map_cons, List.map_nil]); first | done | rfl | (simp only [List.length_drop, List.length_take]; rfl)) ?_; (with_reducible refine (laws_heldRuleS.calls k _ _ l0_2 a1 t102 _ ?side1 ?side2 A3.out).mono ?_); (case side1 => repeat (first | exact (zS HR0_2.out HB.out) | refine Kd.C_alloc ?_ _ | refine Kd.C_drewN ?_ _ | refine Kd.C_drew ?_)); (case side2 => exact HC0_2.out); rintro e w' ⟨rfl, ⟨nd, rfl⟩⟩; refine ⟨_, rfl, ?_⟩)); go_ret; exact ⟨by first | rfl | (simp [errW_none, errW_some] <;> rfl) | (simp [*, errW_none, errW_some] <;> rfl), by repeat (first | (with_reducible first | exact HB.out | apply zB | apply zC | apply zD | refine zE ?_ GE101.out) | exact HB.out)⟩
 · rw [if_neg c4] at H; have c4b0 : decide (t102 < 0) = false := decide_eq_false c4; clear c4; obtain rfl := Option.some.inj H; go_enter Try.func13, Try.ntmps13; go_wp2_with (first | ((with_reducible refine gate_dst (N := 2) rfl ?_); refine box_event ?hg (N := 2) ?hd (cs := #[.int .i64 a0_0, .int .i64 a0_1, .slice A0_2 l0_2.length c0_2]) (t := 30) ?hr ?_; (case hd => rfl); (case hg => rfl); (case hr => first | (go_simp; done) | (go_simp; rfl)); intro gb101 hg w7 hbox hb; have n0_ := zA (zG (by repeat (first | (with_reducible first | exact HB.out | apply zB | apply zC | apply zD) | exact HB.out)) hb); have n1_ := zA (hbox); have n2_ := zA ((by rw [hg]; exact (zF (by repeat (first | (with_reducible first | exact HB.out | apply zB | apply zC | apply zD) | exact HB.out))) : w.heap.size ≤ gb101)); have n3_ := zA ((by rw [hg]; exact (zF (by repeat (first | (with_reducible first | exact HB.out | apply zB | apply zC | apply zD) | exact HB.out))) : w.heap.size ≤ gb101)); clear HB; have HB := n0_; have BK101 := n1_; have GW101 := n2_; have GE101 := n3_; clear n0_ n1_ n2_ n3_; clear hb hbox hg; have hcz8_0 : w7.cell? ⟨gb101, 0, none⟩ = some (.int .i64 a0_0) := (zK BK101.out 0).trans rfl; have hcz8_1 : w7.cell? ⟨gb101, 1, none⟩ = some (.int .i64 a0_1) := (zK BK101.out 1).trans rfl; have hcz8_2 : w7.cell? ⟨gb101, 2, none⟩ = some (.slice A0_2 l0_2.length c0_2) := (zK BK101.out 2).trans rfl; have hfz8_0 := zL BK101.out 0; have hfz8_1 := zL BK101.out 1; have hfz8_2 := zL BK101.out 2) | ((with_reducible refine gate_callee (f := 26) rfl ?_); refine goesL_ (some 8) rfl rfl Try.func26 (by kernel_rfl) rfl #[.slice A0_2 l0_2.length c0_2, .int .i64 a1] rfl (by (try simp only [List.map_toArray, List.map_cons, List.map_nil]); first | done | rfl | (simp only [List.length_drop, List.length_take]; rfl)) ?_; (with_reducible refine (laws_heldRuleS.calls k _ _ l0_2 a1 t102 _ ?side1 ?side2 A3.out).mono ?_); (case side1 => repeat (first | exact (zS HR0_2.out HB.out) | refine Kd.C_alloc ?_ _ | refine Kd.C_drewN ?_ _ | refine Kd.C_drew ?_)); (case side2 => exact HC0_2.out); rintro e w' ⟨rfl, ⟨nd, rfl⟩⟩; refine ⟨_, rfl, ?_⟩)); go_ret; exact ⟨by first | rfl | (simp [errW_none, errW_some] <;> rfl) | (simp [*, errW_none, errW_some] <;> rfl), by repeat (first | (with_reducible first | exact HB.out | apply zB | apply zC | apply zD | refine zE ?_ GE101.out) | exact HB.out)⟩
end Go.Proofs.Ytodacikpbcgndaa.P
namespace Go.Proofs.Ytodacikpbcgndaa.P
open Go.RowKit Go.Proofs.YtodacikpbcgndaaW.PrintWords Go.Proofs.YtodacikpbcgndaaW.PrintLast Go.Proofs.YtodacikpbcgndaaW.PrintMore
set_option linter.unusedVariables false
set_option linter.unusedSimpArgs false
theorem mkR_get (l : List S56) (a : Int) (i : Nat) (hi : i < l.length) : rd_T56 (mkR l a) (i : Int) = ⟨a + szR (l.take i), ramp (a + szR (l.take i) + 1) (rd_T56 l i).f1.length⟩ := by
 have e : l = l.take i ++ l.getD i z56 :: l.drop (i + 1) := by rw [← getD_drop l i _ hi, List.take_append_drop]
 have e2 : mkR l a = mkR (l.take i) a ++ mkR (l.getD i z56 :: l.drop (i + 1)) (a + szR (l.take i)) := by rw [← mkR_append, ← e]
 unfold rd_T56; rw [e2, Int.toNat_natCast, List.getD_eq_getElem?_getD, List.getElem?_append_right (by rw [mkR_len, List.length_take]; omega), mkR_len, List.length_take, Nat.min_eq_left (by omega), Nat.sub_self]; rfl
theorem heldRuleS_loop (l : List S56) (a : Int) (ha : 0 ≤ a) (hs : a + szR l ≤ 1152921504606846976) (d : Nat) : ∀ (i : Nat), i ≤ l.length → l.length - i = d →
 Ev (fun k => laws_heldRuleS.l0 k (mkR l a) (a + szR (l.take i)) i) (a + szR l) := by
 have hlen := szR_len l
 induction d with
 | zero =>
  intro i h1 hd; obtain rfl : i = l.length := by omega
  refine ⟨1, fun k hk => ?_⟩; dsimp only; obtain ⟨k, rfl⟩ : ∃ m, k = m + 1 := ⟨k - 1, by omega⟩
  simp only [laws_heldRuleS.l0]; rw [if_neg (by rw [mkR_len]; omega), List.take_of_length_le (Nat.le_refl _)]
 | succ d ih =>
  intro i h1 hd; obtain ⟨K, h⟩ := ih (i + 1) (by omega) (by omega); dsimp only at h; have hb1 := szR_take l i; have hb2 := szR_take l (i + 1); have esz : szR (l.take (i + 1)) = szR (l.take i) + (1 + (rd_T56 l i).f1.length) := by
   rw [take_getD l i z56 (by omega), szR_append]; unfold rd_T56; simp [szR]
  refine ⟨K + (rd_T56 l i).f1.length + 2, fun k hk => ?_⟩; dsimp only; obtain ⟨k, rfl⟩ : ∃ m, k = m + 1 := ⟨k - 1, by omega⟩
  simp only [laws_heldRuleS.l0]; rw [if_pos (by rw [mkR_len]; omega), if_pos (by omega), mkR_get l a i (by omega)]; dsimp only; rw [if_pos rfl, show wrap64 (a + (szR (l.take i) : Int) + 1) = a + szR (l.take i) + 1 by unfold wrap64; omega, heldIntS_eq _ (by omega) _ (by omega) (by omega) k (by omega)]; simp only [Option.bind_some]; rw [if_neg (by omega), show wrap64 ((i : Int) + 1) = ((i + 1 : Nat) : Int) by unfold wrap64; omega, show a + (szR (l.take i) : Int) + 1 + ((rd_T56 l i).f1.length : Int) = a + szR (l.take (i + 1)) by rw [esz]; omega]; exact h k (by omega)
theorem heldGrammar_ev (n t : Int) (l : List S56) (a : Int) (ha : 0 ≤ a) (hs : a + szR l ≤ 1152921504606846976) : Ev (fun k => laws_heldGrammar.f k n t (mkR l a) a) (a + szR l) := by
 obtain ⟨K, h⟩ := heldRuleS_loop l a ha hs l.length 0 (by omega) (by omega); dsimp only at h; rw [List.take_zero] at h; refine ⟨K, fun k hk => ?_⟩; dsimp only; have h2 := h k hk; simp only [szR, Int.natCast_zero, Int.add_zero] at h2; unfold laws_heldGrammar.f laws_heldRuleS.f; rw [h2]; simp only [Option.bind_some]; rw [if_neg (by omega)]
theorem heldGrammar_calls (a0 a1 : Int) (A : Option Addr) (c : Nat) (l : List S56) (a : Int) (w : World) (hr : Kd.C k56 w A (mkR l a).length (mkR l a)) (hc : l.length ≤ c) (ha : 0 ≤ a) (hs : a + szR l ≤ 1152921504606846976) :
 Calls Try.prog 13 #[.agg #[.int .i64 a0, .int .i64 a1, .slice A l.length c], .int .i64 a] w fun e w' => e = .returned (.int .i64 (a + szR l)) ∧ Below w.heap.size w w' := by
 obtain ⟨k, hk⟩ := (heldGrammar_ev a0 a1 l a ha hs).rounds; have H := laws_heldGrammar.calls k a0 a1 A c (mkR l a) a (a + szR l) w hr (by rw [mkR_len]; exact hc) hk; rw [mkR_len] at H; exact H
end Go.Proofs.Ytodacikpbcgndaa.P
namespace Go.Proofs.Ytodacikpbcgndaa.P
open Go.RowKit Go.Proofs.YtodacikpbcgndaaW.PrintWords
set_option linter.unusedVariables false
set_option linter.unusedSimpArgs false
end Go.Proofs.Ytodacikpbcgndaa.P
namespace Go.Proofs.Ytodacikpbcgndaa.P
open Go.RowKit Go.Proofs.YtodacikpbcgndaaW.PrintWords Go.Proofs.YtodacikpbcgndaaW.PrintLast Go.Proofs.YtodacikpbcgndaaW.PrintMore
attribute [local go_sem] max2_int min2_int max_two min_two max_three min_three max_four min_four
set_option linter.unusedVariables false
set_option linter.unusedSimpArgs false
def impl_in.f (a0 : Int) (a1 : Int) (a2 : Int) : Option (Bool) := if a0 ≥ a1 then (some (decide (a0 ≤ a2))) else (some false)
set_option maxHeartbeats 8000000 in
set_option maxRecDepth 100000 in
theorem impl_in.calls (a0 : Int) (a1 : Int) (a2 : Int) (r : Bool) (w : World) (h : impl_in.f a0 a1 a2 = some r) :
 Calls Try.prog 34 #[.int .i64 a0, .int .i64 a1, .int .i64 a2] w fun e w' => e = .returned (.bool r) ∧ Drawn0 w w' := by
 have H : (if a0 ≥ a1 then (some (decide (a0 ≤ a2))) else (some false)) = some r := h; clear h; by_cases c4 : a0 ≥ a1
 · rw [if_pos c4] at H; have c4b0 : decide (a1 ≤ a0) = true := decide_eq_true c4; clear c4; obtain rfl := Option.some.inj H; go_enter Try.func34, Try.ntmps34; go_wp2; go_ret; exact ⟨by first | rfl | (simp; done) | (simp [*]; done), by repeat (first | exact Drawn0.refl _ | apply Drawn0.step)⟩
 · rw [if_neg c4] at H; have c4b0 : decide (a1 ≤ a0) = false := decide_eq_false c4; clear c4; obtain rfl := Option.some.inj H; go_enter Try.func34, Try.ntmps34; go_wp2; go_ret; exact ⟨by first | rfl | (simp; done) | (simp [*]; done), by repeat (first | exact Drawn0.refl _ | apply Drawn0.step)⟩
def impl_isSymbol.f (a0 : Int) (a1 : Int) (a2 : Int) : Option (Bool) := (impl_in.f a0 (wrap64 (-a2)) (wrap64 (a1 - 1))).bind fun t101 => (some t101)
set_option maxHeartbeats 8000000 in
set_option maxRecDepth 100000 in
theorem impl_isSymbol.calls (a0 : Int) (a1 : Int) (a2 : Int) (r : Bool) (w : World) (h : impl_isSymbol.f a0 a1 a2 = some r) :
 Calls Try.prog 67 #[.int .i64 a0, .int .i64 a1, .int .i64 a2] w fun e w' => e = .returned (.bool r) ∧ Drawn0 w w' := by
 have H : ((impl_in.f a0 (wrap64 (-a2)) (wrap64 (a1 - 1))).bind fun t101 => (some t101)) = some r := h; clear h; replace H := Option.bind_eq_some_iff.mp H; obtain ⟨t101, A40, H⟩ := H; replace H : (some t101) = some r := H; have A4 := zA A40; clear A40; obtain rfl := Option.some.inj H; go_enter Try.func67, Try.ntmps67; go_wp2_with (first | ((with_reducible refine gate_callee (f := 34) rfl ?_); refine goesL_ (some 12) rfl rfl Try.func34 (by kernel_rfl) rfl #[.int .i64 a0, .int .i64 (wrap64 (-a2)), .int .i64 (wrap64 (a1 - 1))] rfl (by (try simp only [List.map_toArray, List.map_cons, List.map_nil]); first | done | rfl | (simp only [List.length_drop, List.length_take]; rfl)) ?_; (with_reducible refine (impl_in.calls a0 (wrap64 (-a2)) (wrap64 (a1 - 1)) t101 _ A4.out).mono ?_); rintro e w' ⟨rfl, ⟨nd, rfl⟩⟩; refine ⟨_, rfl, ?_⟩)); go_ret; exact ⟨by first | rfl | (simp; done) | (simp [*]; done), by repeat (first | exact Drawn0.refl _ | apply Drawn0.step)⟩
end Go.Proofs.Ytodacikpbcgndaa.P
namespace Go.Proofs.Ytodacikpbcgndaa.P
open Go.RowKit Go.Proofs.YtodacikpbcgndaaW.PrintWords Go.Proofs.YtodacikpbcgndaaW.PrintLast Go.Proofs.YtodacikpbcgndaaW.PrintMore
set_option linter.unusedVariables false
set_option linter.unusedSimpArgs false
def idxF {α : Type} (p : α → Bool) (l : List α) : Int := if l.any p = true then (l.findIdx p : Int) else -1
theorem idxF_hit {α : Type} (p : α → Bool) (l : List α) (d : α) (i : Nat) (hi : i < l.length) (h : p (l.getD i d) = true) (hb : ∀ j, j < i → p (l.getD j d) = false) : idxF p l = i := by
 have hg : ∀ j (hj : j < l.length), l.getD j d = l[j] := fun j hj => by rw [List.getD_eq_getElem?_getD, List.getElem?_eq_getElem hj]; rfl
 have hany : l.any p = true := List.any_eq_true.mpr ⟨l[i], List.getElem_mem hi, by rw [← hg i hi]; exact h⟩; unfold idxF; rw [if_pos hany]; have : l.findIdx p = i := (List.findIdx_eq hi).mpr ⟨by rw [← hg i hi]; exact h, fun j hj => by rw [← hg j (by omega)]; exact hb j hj⟩; rw [this]
theorem idxF_miss {α : Type} (p : α → Bool) (l : List α) (d : α) (hb : ∀ j, j < l.length → p (l.getD j d) = false) : idxF p l = -1 := by
 unfold idxF; rw [if_neg]; intro h; obtain ⟨x, hx, hp⟩ := List.any_eq_true.mp h; obtain ⟨j, hj, rfl⟩ := List.getElem_of_mem hx; have := hb j hj; rw [List.getD_eq_getElem?_getD, List.getElem?_eq_getElem hj] at this; simp at this; rw [this] at hp; cases hp
theorem idxF_any {α : Type} (p : α → Bool) (l : List α) : decide (0 ≤ idxF p l) = l.any p := by
 unfold idxF; cases h : l.any p <;> simp <;> omega
theorem drawn_below {w w' : World} (h : Drawn0 w w') : Below w.heap.size w w' := by
 obtain ⟨n, rfl⟩ := h; exact zC (Below.refl _ _) n
def PredI (g : Nat) (lb : Array Value) (p : Int → Bool) (w : World) : Prop :=
 ∀ (W : World) (x : Int), Below w.heap.size w W → Calls Try.prog g (#[.int .i64 x] ++ lb) W fun e w' => e = .returned (.bool (p x)) ∧ Below W.heap.size W w'
def PredID (g : Nat) (lb : Array Value) (D : Int → Prop) (p : Int → Bool) (w : World) : Prop :=
 ∀ (W : World) (x : Int), Below w.heap.size w W → D x → Calls Try.prog g (#[.int .i64 x] ++ lb) W fun e w' => e = .returned (.bool (p x)) ∧ Below W.heap.size W w'
def symB (nons toks x : Int) : Bool := decide (wrap64 (-toks) ≤ x ∧ x ≤ wrap64 (nons - 1))
theorem impl_in_eq (a b c : Int) : impl_in.f a b c = some (decide (b ≤ a ∧ a ≤ c)) := by
 unfold impl_in.f; by_cases h : a ≥ b
 · rw [if_pos h]; congr 2; simp; omega
 · rw [if_neg h]; simp; omega
def impl_areSymbols.f (l0 : List Int) (a1 a2 : Int) : Option Bool := some (!(l0.any fun x => !symB a1 a2 x))
end Go.Proofs.Ytodacikpbcgndaa.P
namespace Go.Proofs.Ytodacikpbcgndaa.P
open Go.RowKit Go.Proofs.YtodacikpbcgndaaW.PrintWords Go.Proofs.YtodacikpbcgndaaW.PrintLast Go.Proofs.YtodacikpbcgndaaW.PrintMore
attribute [local go_sem] max2_int min2_int max_two min_two max_three min_three max_four min_four
set_option linter.unusedVariables false
set_option linter.unusedSimpArgs false
def slices_Equal_int_int.l0 : Nat → List Int → List Int → Int → Int → Option (Bool)
 | 0, _, _, _, _ => none
 | k + 1, x0, x1, x12, x13 => if x13 < x12 then (if 0 ≤ x13 then (if x13 < (x0.length : Int) then (if x13 < (x1.length : Int) then (if (rd x0 x13) = (rd x1 x13) then (slices_Equal_int_int.l0 k x0 x1 x12 (wrap64 (x13 + 1))) else (some false)) else (none)) else (none)) else (none)) else (some true)
def slices_Equal_int_int.f (k : Nat) (l0 : List Int) (l1 : List Int) : Option (Bool) := if (l0.length : Int) = (l1.length : Int) then (slices_Equal_int_int.l0 k l0 l1 (l0.length : Int) 0) else (some false)
set_option maxHeartbeats 8000000 in
set_option maxRecDepth 100000 in
theorem slices_Equal_int_int.calls (k : Nat) (A0 : Option Addr) (c0 : Nat) (l0 : List Int) (A1 : Option Addr) (c1 : Nat) (l1 : List Int) (r : Bool) (w : World) (hr0 : Kd.C (Kd.int .i64) w A0 l0.length l0) (hc0 : l0.length ≤ c0) (hr1 : Kd.C (Kd.int .i64) w A1 l1.length l1) (hc1 : l1.length ≤ c1) (h : slices_Equal_int_int.f k l0 l1 = some r) :
 Calls Try.prog 69 #[.slice A0 l0.length c0, .slice A1 l1.length c1] w fun e w' => e = .returned (.bool r) ∧ Drawn0 w w' := by
 have HR0 := zA hr0; have HC0 := zA hc0; clear hr0 hc0; have HR1 := zA hr1; have HC1 := zA hc1; clear hr1 hc1; have H : (if (l0.length : Int) = (l1.length : Int) then (slices_Equal_int_int.l0 k l0 l1 (l0.length : Int) 0) else (some false)) = some r := h; clear h; by_cases c3 : (l0.length : Int) = (l1.length : Int)
 · rw [if_pos c3] at H; have c3b0 : ((l0.length : Int) == (l1.length : Int)) = true := beq_iff_eq.mpr c3; have c3b1 : ((l0.length : Int) != (l1.length : Int)) = false := bne_eq_false_iff_eq.mpr c3; have c3b2 : (l0.length == l1.length) = true := by first | simpa using c3 | (simp at c3 ⊢; omega)
   clear c3; have H' := zA H; clear H; go_enter Try.func69, Try.ntmps69; go_wp2; (repeat (go_quiet (fail); try go_wp2)); go_loopg [13] k (fun kq v13 w' => ∃ (x13_1 : Int), v13 = .int .i64 x13_1 ∧ Aside0 (slices_Equal_int_int.l0 kq l0 l1 (l0.length : Int) x13_1 = some r) ∧ Aside0 (kq ≤ k) ∧ Drawn0 w w')
   case atStart => exact ⟨(0), (by first | rfl | (simp; done) | (simp [*]; done)), H', ⟨Nat.le_refl _⟩, by repeat (first | exact Drawn0.refl _ | apply Drawn0.step)⟩
   case round =>
    clear H'; (try clear c1); (try clear p2); (try clear c3); (try clear c3b0); (try clear c3b1); (try clear c3b2); obtain ⟨x13_1, rfl, HA, HK1, ⟨m1, rfl⟩⟩ := hrel; cases gk with
    | zero => exact absurd HA.out (by simp [slices_Equal_int_int.l0])
    | succ k1 =>
     have H := HA.out; clear HA; simp only [slices_Equal_int_int.l0] at H; by_cases c4 : x13_1 < (l0.length : Int)
     · rw [if_pos c4] at H; have c4b0 : decide (x13_1 < (l0.length : Int)) = true := decide_eq_true c4; clear c4; by_cases c5 : 0 ≤ x13_1
       · rw [if_pos c5] at H; have c5b0 : decide (0 ≤ x13_1) = true := decide_eq_true c5; clear c5; by_cases c6 : x13_1 < (l0.length : Int)
         · rw [if_pos c6] at H; have c6b0 : decide (x13_1 < (l0.length : Int)) = true := decide_eq_true c6; clear c6; by_cases c7 : x13_1 < (l1.length : Int)
           · rw [if_pos c7] at H; have c7b0 : decide (x13_1 < (l1.length : Int)) = true := decide_eq_true c7; clear c7; by_cases c8 : (rd l0 x13_1) = (rd l1 x13_1)
             · rw [if_pos c8] at H; have c8b0 : ((rd l0 x13_1) == (rd l1 x13_1)) = true := beq_iff_eq.mpr c8; have c8b1 : ((rd l0 x13_1) != (rd l1 x13_1)) = false := bne_eq_false_iff_eq.mpr c8; clear c8; have H' := zA H; clear H; have p101 : 0 ≤ (x13_1 : Int) := of_decide_eq_true (by assumption); have q101 : x13_1 < (l0.length : Int) := of_decide_eq_true (by assumption); obtain ⟨ad101, e101, hx101_0⟩ := Kd.at_int HR0.out x13_1 p101 q101; cases e101; replace p101 := eq_true p101; replace q101 := eq_true q101; have p102 : 0 ≤ (x13_1 : Int) := of_decide_eq_true (by assumption); have q102 : x13_1 < (l1.length : Int) := of_decide_eq_true (by assumption); obtain ⟨ad102, e102, hx102_0⟩ := Kd.at_int HR1.out x13_1 p102 q102; cases e102; replace p102 := eq_true p102; replace q102 := eq_true q102; go_wp2; repeat (go_quiet (fail); try go_wp2)
               go_roundg k1
               case measure => have := HK1.out; omega
               case rel => exact ⟨(wrap64 (x13_1 + 1)), (by first | rfl | (simp; done) | (simp [*]; done)), H', ⟨by have := HK1.out; omega⟩, by repeat (first | exact Drawn0.refl _ | apply Drawn0.step)⟩
             · rw [if_neg c8] at H; have c8b0 : ((rd l0 x13_1) == (rd l1 x13_1)) = false := beq_eq_false_iff_ne.mpr c8; have c8b1 : ((rd l0 x13_1) != (rd l1 x13_1)) = true := bne_iff_ne.mpr c8; obtain rfl := Option.some.inj H; have p101 : 0 ≤ (x13_1 : Int) := of_decide_eq_true (by assumption); have q101 : x13_1 < (l0.length : Int) := of_decide_eq_true (by assumption); obtain ⟨ad101, e101, hx101_0⟩ := Kd.at_int HR0.out x13_1 p101 q101; cases e101; replace p101 := eq_true p101; replace q101 := eq_true q101; have p102 : 0 ≤ (x13_1 : Int) := of_decide_eq_true (by assumption); have q102 : x13_1 < (l1.length : Int) := of_decide_eq_true (by assumption); obtain ⟨ad102, e102, hx102_0⟩ := Kd.at_int HR1.out x13_1 p102 q102; cases e102; replace p102 := eq_true p102; replace q102 := eq_true q102; go_wp2; (repeat (go_quiet (fail); try go_wp2)); go_ret; exact ⟨by first | rfl | (simp; done) | (simp [*]; done), by repeat (first | exact Drawn0.refl _ | apply Drawn0.step)⟩
           · rw [if_neg c7] at H; exact absurd H (by simp)
         · rw [if_neg c6] at H; exact absurd H (by simp)
       · rw [if_neg c5] at H; exact absurd H (by simp)
     · rw [if_neg c4] at H; have c4b0 : decide (x13_1 < (l0.length : Int)) = false := decide_eq_false c4; clear c4; obtain rfl := Option.some.inj H; go_wp2; (repeat (go_quiet (fail); try go_wp2)); go_ret; exact ⟨by first | rfl | (simp; done) | (simp [*]; done), by repeat (first | exact Drawn0.refl _ | apply Drawn0.step)⟩
 · rw [if_neg c3] at H; have c3b0 : ((l0.length : Int) == (l1.length : Int)) = false := beq_eq_false_iff_ne.mpr c3; have c3b1 : ((l0.length : Int) != (l1.length : Int)) = true := bne_iff_ne.mpr c3; have c3b2 : (l0.length == l1.length) = false := by first | simpa using c3 | (simp at c3 ⊢; omega)
   obtain rfl := Option.some.inj H; go_enter Try.func69, Try.ntmps69; go_wp2; (repeat (go_quiet (fail); try go_wp2)); go_ret; exact ⟨by first | rfl | (simp; done) | (simp [*]; done), by repeat (first | exact Drawn0.refl _ | apply Drawn0.step)⟩
def impl_sameRule.f (k : Nat) (a0_0 : Int) (l0_1 : List Int) (a1_0 : Int) (l1_1 : List Int) : Option (Bool) := if a0_0 = a1_0 then ((slices_Equal_int_int.f k l0_1 l1_1).bind fun t103 => (some t103)) else (some false)
set_option maxHeartbeats 8000000 in
set_option maxRecDepth 100000 in
theorem impl_sameRule.calls (k : Nat) (a0_0 : Int) (A0_1 : Option Addr) (c0_1 : Nat) (l0_1 : List Int) (a1_0 : Int) (A1_1 : Option Addr) (c1_1 : Nat) (l1_1 : List Int) (r : Bool) (w : World) (hr0_1 : Kd.C (Kd.int .i64) w A0_1 l0_1.length l0_1) (hc0_1 : l0_1.length ≤ c0_1) (hr1_1 : Kd.C (Kd.int .i64) w A1_1 l1_1.length l1_1) (hc1_1 : l1_1.length ≤ c1_1) (h : impl_sameRule.f k a0_0 l0_1 a1_0 l1_1 = some r) :
 Calls Try.prog 38 #[.agg #[.int .i64 a0_0, .slice A0_1 l0_1.length c0_1], .agg #[.int .i64 a1_0, .slice A1_1 l1_1.length c1_1]] w fun e w' => e = .returned (.bool r) ∧ Below w.heap.size w w' := by
 have hu56 := Try.underlying56; have HR0_1 := zA hr0_1; have HC0_1 := zA hc0_1; clear hr0_1 hc0_1; have HR1_1 := zA hr1_1; have HC1_1 := zA hc1_1; clear hr1_1 hc1_1; have HB := zA (Below.refl w.heap.size w); have H : (if a0_0 = a1_0 then ((slices_Equal_int_int.f k l0_1 l1_1).bind fun t103 => (some t103)) else (some false)) = some r := h; clear h; by_cases c3 : a0_0 = a1_0
 · rw [if_pos c3] at H; have c3b0 : (a0_0 == a1_0) = true := beq_iff_eq.mpr c3; have c3b1 : (a0_0 != a1_0) = false := bne_eq_false_iff_eq.mpr c3; clear c3; replace H := Option.bind_eq_some_iff.mp H; obtain ⟨t103, A40, H⟩ := H; replace H : (some t103) = some r := H; have A4 := zA A40; clear A40; obtain rfl := Option.some.inj H; go_enter Try.func38, Try.ntmps38; go_wp2_with (first | ((with_reducible refine gate_dst (N := 2) rfl ?_); refine box_event ?hg (N := 2) ?hd (cs := #[.int .i64 a0_0, .slice A0_1 l0_1.length c0_1]) (t := 56) ?hr ?_; (case hd => rfl); (case hg => rfl); (case hr => first | (go_simp; done) | (go_simp; rfl)); intro gb101 hg w5 hbox hb; have n0_ := zA (zG (by repeat (first | (with_reducible first | exact HB.out | apply zB | apply zC | apply zD) | exact HB.out)) hb); have n1_ := zA (hbox); have n2_ := zA ((by rw [hg]; exact (zF (by repeat (first | (with_reducible first | exact HB.out | apply zB | apply zC | apply zD) | exact HB.out))) : w.heap.size ≤ gb101)); have n3_ := zA ((by rw [hg]; exact (zF (by repeat (first | (with_reducible first | exact HB.out | apply zB | apply zC | apply zD) | exact HB.out))) : w.heap.size ≤ gb101)); clear HB; have HB := n0_; have BK101 := n1_; have GW101 := n2_; have GE101 := n3_; clear n0_ n1_ n2_ n3_; clear hb hbox hg) | ((with_reducible refine gate_dst (N := 3) rfl ?_); refine box_event ?hg (N := 3) ?hd (cs := #[.int .i64 a1_0, .slice A1_1 l1_1.length c1_1]) (t := 56) ?hr ?_; (case hd => rfl); (case hg => rfl); (case hr => first | (go_simp; done) | (go_simp; rfl)); intro gb102 hg w6 hbox hb; have n0_ := zA (zM (g := gb101) (o := .cells #[.int .i64 a0_0, .slice A0_1 l0_1.length c0_1] 56 (0, 0)) (by (with_reducible repeat (first | refine blk_drewN ?_ _ | refine blk_drew ?_ | refine zH ?_ _)); exact BK101.out) hb); have n1_ := zA (zG (by repeat (first | (with_reducible first | exact HB.out | apply zB | apply zC | apply zD | refine zE ?_ GE101.out) | exact HB.out)) hb); have n2_ := zA (hbox); have n3_ := zA ((by rw [hg]; exact (zF (by repeat (first | (with_reducible first | exact HB.out | apply zB | apply zC | apply zD | refine zE ?_ GE101.out) | exact HB.out))) : w.heap.size ≤ gb102)); have n4_ := zA ((by rw [hg]; exact (zF (by repeat (first | (with_reducible first | exact HB.out | apply zB | apply zC | apply zD | refine zE ?_ GE101.out) | exact HB.out))) : w.heap.size ≤ gb102)); have n5_ := zA ((by rw [hg]; exact Nat.ne_of_lt (blk_lt (g := gb101) (o := .cells #[.int .i64 a0_0, .slice A0_1 l0_1.length c0_1] 56 (0, 0)) (by (with_reducible repeat (first | refine blk_drewN ?_ _ | refine blk_drew ?_ | refine zH ?_ _)); exact BK101.out)) : gb101 ≠ gb102)); have n6_ := zA ((by rw [hg]; exact Nat.ne_of_gt (blk_lt (g := gb101) (o := .cells #[.int .i64 a0_0, .slice A0_1 l0_1.length c0_1] 56 (0, 0)) (by (with_reducible repeat (first | refine blk_drewN ?_ _ | refine blk_drew ?_ | refine zH ?_ _)); exact BK101.out)) : gb102 ≠ gb101)); clear BK101; clear HB; have BK101 := n0_; have HB := n1_; have BK102 := n2_; have GW102 := n3_; have GE102 := n4_; have NB101_102 := n5_; have NB102_101 := n6_; clear n0_ n1_ n2_ n3_ n4_ n5_ n6_; clear hb hbox hg; have hnb7 := NB101_102.out; have hnc7 := NB102_101.out; have hcz8_0 : w6.cell? ⟨gb101, 0, none⟩ = some (.int .i64 a0_0) := (zK BK101.out 0).trans rfl; have hcz8_1 : w6.cell? ⟨gb101, 1, none⟩ = some (.slice A0_1 l0_1.length c0_1) := (zK BK101.out 1).trans rfl; have hfz8_0 := zL BK101.out 0; have hfz8_1 := zL BK101.out 1; have hcz9_0 : w6.cell? ⟨gb102, 0, none⟩ = some (.int .i64 a1_0) := (zK BK102.out 0).trans rfl; have hcz9_1 : w6.cell? ⟨gb102, 1, none⟩ = some (.slice A1_1 l1_1.length c1_1) := (zK BK102.out 1).trans rfl; have hfz9_0 := zL BK102.out 0; have hfz9_1 := zL BK102.out 1) | (go_at_call 69; (with_reducible refine (slices_Equal_int_int.calls k _ _ l0_1 _ _ l1_1 t103 _ ?side1 ?side2 ?side3 ?side4 A4.out).mono ?_); (case side1 => repeat (first | exact (zS HR0_1.out HB.out) | refine Kd.C_alloc ?_ _ | refine Kd.C_drewN ?_ _ | refine Kd.C_drew ?_)); (case side2 => exact HC0_1.out); (case side3 => repeat (first | exact (zS HR1_1.out HB.out) | refine Kd.C_alloc ?_ _ | refine Kd.C_drewN ?_ _ | refine Kd.C_drew ?_)); (case side4 => exact HC1_1.out); rintro e w' ⟨rfl, ⟨nd, rfl⟩⟩)); go_ret; exact ⟨by first | rfl | (simp [errW_none, errW_some] <;> rfl) | (simp [*, errW_none, errW_some] <;> rfl), by repeat (first | (with_reducible first | exact HB.out | apply zB | apply zC | apply zD | refine zE ?_ GE101.out | refine zE ?_ GE102.out) | exact HB.out)⟩
 · rw [if_neg c3] at H; have c3b0 : (a0_0 == a1_0) = false := beq_eq_false_iff_ne.mpr c3; have c3b1 : (a0_0 != a1_0) = true := bne_iff_ne.mpr c3; obtain rfl := Option.some.inj H; go_enter Try.func38, Try.ntmps38; go_wp2_with (first | ((with_reducible refine gate_dst (N := 2) rfl ?_); refine box_event ?hg (N := 2) ?hd (cs := #[.int .i64 a0_0, .slice A0_1 l0_1.length c0_1]) (t := 56) ?hr ?_; (case hd => rfl); (case hg => rfl); (case hr => first | (go_simp; done) | (go_simp; rfl)); intro gb101 hg w10 hbox hb; have n0_ := zA (zG (by repeat (first | (with_reducible first | exact HB.out | apply zB | apply zC | apply zD) | exact HB.out)) hb); have n1_ := zA (hbox); have n2_ := zA ((by rw [hg]; exact (zF (by repeat (first | (with_reducible first | exact HB.out | apply zB | apply zC | apply zD) | exact HB.out))) : w.heap.size ≤ gb101)); have n3_ := zA ((by rw [hg]; exact (zF (by repeat (first | (with_reducible first | exact HB.out | apply zB | apply zC | apply zD) | exact HB.out))) : w.heap.size ≤ gb101)); clear HB; have HB := n0_; have BK101 := n1_; have GW101 := n2_; have GE101 := n3_; clear n0_ n1_ n2_ n3_; clear hb hbox hg) | ((with_reducible refine gate_dst (N := 3) rfl ?_); refine box_event ?hg (N := 3) ?hd (cs := #[.int .i64 a1_0, .slice A1_1 l1_1.length c1_1]) (t := 56) ?hr ?_; (case hd => rfl); (case hg => rfl); (case hr => first | (go_simp; done) | (go_simp; rfl)); intro gb102 hg w11 hbox hb; have n0_ := zA (zM (g := gb101) (o := .cells #[.int .i64 a0_0, .slice A0_1 l0_1.length c0_1] 56 (0, 0)) (by (with_reducible repeat (first | refine blk_drewN ?_ _ | refine blk_drew ?_ | refine zH ?_ _)); exact BK101.out) hb); have n1_ := zA (zG (by repeat (first | (with_reducible first | exact HB.out | apply zB | apply zC | apply zD | refine zE ?_ GE101.out) | exact HB.out)) hb); have n2_ := zA (hbox); have n3_ := zA ((by rw [hg]; exact (zF (by repeat (first | (with_reducible first | exact HB.out | apply zB | apply zC | apply zD | refine zE ?_ GE101.out) | exact HB.out))) : w.heap.size ≤ gb102)); have n4_ := zA ((by rw [hg]; exact (zF (by repeat (first | (with_reducible first | exact HB.out | apply zB | apply zC | apply zD | refine zE ?_ GE101.out) | exact HB.out))) : w.heap.size ≤ gb102)); have n5_ := zA ((by rw [hg]; exact Nat.ne_of_lt (blk_lt (g := gb101) (o := .cells #[.int .i64 a0_0, .slice A0_1 l0_1.length c0_1] 56 (0, 0)) (by (with_reducible repeat (first | refine blk_drewN ?_ _ | refine blk_drew ?_ | refine zH ?_ _)); exact BK101.out)) : gb101 ≠ gb102)); have n6_ := zA ((by rw [hg]; exact Nat.ne_of_gt (blk_lt (g := gb101) (o := .cells #[.int .i64 a0_0, .slice A0_1 l0_1.length c0_1] 56 (0, 0)) (by (with_reducible repeat (first | refine blk_drewN ?_ _ | refine blk_drew ?_ | refine zH ?_ _)); exact BK101.out)) : gb102 ≠ gb101)); clear BK101; clear HB; have BK101 := n0_; have HB := n1_; have BK102 := n2_; have GW102 := n3_; have GE102 := n4_; have NB101_102 := n5_; have NB102_101 := n6_; clear n0_ n1_ n2_ n3_ n4_ n5_ n6_; clear hb hbox hg; have hnb12 := NB101_102.out; have hnc12 := NB102_101.out; have hcz13_0 : w11.cell? ⟨gb101, 0, none⟩ = some (.int .i64 a0_0) := (zK BK101.out 0).trans rfl; have hcz13_1 : w11.cell? ⟨gb101, 1, none⟩ = some (.slice A0_1 l0_1.length c0_1) := (zK BK101.out 1).trans rfl; have hfz13_0 := zL BK101.out 0; have hfz13_1 := zL BK101.out 1; have hcz14_0 : w11.cell? ⟨gb102, 0, none⟩ = some (.int .i64 a1_0) := (zK BK102.out 0).trans rfl; have hcz14_1 : w11.cell? ⟨gb102, 1, none⟩ = some (.slice A1_1 l1_1.length c1_1) := (zK BK102.out 1).trans rfl; have hfz14_0 := zL BK102.out 0; have hfz14_1 := zL BK102.out 1)); go_ret; exact ⟨by first | rfl | (simp [errW_none, errW_some] <;> rfl) | (simp [*, errW_none, errW_some] <;> rfl), by repeat (first | (with_reducible first | exact HB.out | apply zB | apply zC | apply zD | refine zE ?_ GE101.out | refine zE ?_ GE102.out) | exact HB.out)⟩
end Go.Proofs.Ytodacikpbcgndaa.P
namespace Go.Proofs.Ytodacikpbcgndaa.P
open Go.RowKit Go.Proofs.YtodacikpbcgndaaW.PrintWords Go.Proofs.YtodacikpbcgndaaW.PrintLast Go.Proofs.YtodacikpbcgndaaW.PrintMore
set_option linter.unusedVariables false
set_option linter.unusedSimpArgs false
def PredR (g : Nat) (lb : Array Value) (p : S56 → Bool) (w : World) : Prop :=
 ∀ (W : World) (x : S56) (A : Option Addr) (c : Nat), Below w.heap.size w W → x.f1.length ≤ c → Kd.C (Kd.int .i64) W A x.f1.length x.f1 →
  Calls Try.prog g (#[.agg #[.int .i64 x.f0, .slice A x.f1.length c]] ++ lb) W fun e w' => e = .returned (.bool (p x)) ∧ Below W.heap.size W w'
set_option maxHeartbeats 2000000 in
set_option maxRecDepth 100000 in
theorem indexFunc_rule (g : Nat) (lb : Array Value) (eg : ∀ args w, (callFunc g args).run Try.prog w = .ok (.enter g args) w) (p : S56 → Bool) (A : Option Addr) (c : Nat) (l : List S56) (w : World)
 (hr : Kd.C k56 w A l.length l) (hc : l.length ≤ c) (hp : PredR g lb p w) :
 Calls Try.prog 68 #[.slice A l.length c, .func (.func g) #[] lb] w fun e w' => e = .returned (.int .i64 (idxF p l)) ∧ Below w.heap.size w w' := by
 have hmax : l.length ≤ 9223372036854775807 := hr.2.1; go_enter Try.func68, Try.ntmps68; go_wp2; go_loopg [5, 8] l.length (fun gg _ s8 wr => ∃ kk : Nat, kk ≤ l.length ∧ l.length - kk ≤ gg ∧ s8 = .int .i64 kk ∧ Aside0 (Below w.heap.size w wr) ∧ Aside0 (∀ j, j < kk → p (l.getD j z56) = false))
 case atStart => exact ⟨0, Nat.zero_le _, by omega, rfl, ⟨Below.refl _ w⟩, ⟨fun j hj => absurd hj (Nat.not_lt_zero _)⟩⟩
 case round =>
  obtain ⟨kk, hkk, hg, rfl, BW, A0⟩ := hrel; by_cases hlt : kk < l.length
  · obtain ⟨ad, A1, c1, e, hx0, hx1, hl1, hi1⟩ := at_T56 (zS hr BW.out) (kk : Int) (by omega) (by omega); subst e; have hx2 : wr.cell? (ad.add (kk * 2)) = some (.int .i64 (rd_T56 l kk).f0) := by simpa using hx0
    have hx3 : wr.cell? ⟨(ad.add (kk * 2)).block, (ad.add (kk * 2)).off + 1, none⟩ = some (.slice A1 (rd_T56 l kk).f1.length c1) := by simpa using hx1
    have hcall := hp wr (rd_T56 l kk) A1 c1 BW.out hl1 hi1; have hB := zA (show l.getD kk z56 = rd_T56 l kk from rfl); have L := zA hlt; have hd : decide (kk < l.length) = true := decide_eq_true hlt; clear hx0 hx1 hp hr hl1 hi1; generalize rd_T56 l kk = y at hcall hB hx2 hx3; cases hq : p y with
    | true =>
     rw [hq] at hcall; have Q := zA hq; clear hq; go_wp2_with fail; refine hcall.mono ?_; rintro e w' ⟨rfl, hb'⟩; clear hcall hd eg hlt; go_wp2; go_ret; refine ⟨?_, zG BW.out hb'⟩; rw [idxF_hit p l z56 kk L.out (by rw [hB.out]; exact Q.out) A0.out]; rfl
    | false =>
     rw [hq] at hcall; have Q := zA hq; clear hq; go_wp2_with fail; refine hcall.mono ?_; rintro e w' ⟨rfl, hb'⟩; clear hcall hd eg; go_wp2
     go_roundg (l.length - (kk + 1))
     case measure => have := L.out; omega
     case rel =>
      refine ⟨kk + 1, by have := L.out; omega, by omega, by go_num, ⟨zG BW.out hb'⟩, ⟨fun j hj => ?_⟩⟩; by_cases ej : j = kk
      · subst ej; rw [hB.out]; exact Q.out
      · exact A0.out j (by omega)
  · have hd : decide (kk < l.length) = false := decide_eq_false hlt; have L := zA (show kk = l.length by omega); clear hp hr hlt; go_wp2; go_ret; refine ⟨?_, BW.out⟩; rw [idxF_miss p l z56 (by have := A0.out; rw [L.out] at this; exact this)]; rfl
set_option maxHeartbeats 2000000 in
theorem containsFunc_rule (g : Nat) (lb : Array Value) (eg : ∀ args w, (callFunc g args).run Try.prog w = .ok (.enter g args) w) (p : S56 → Bool) (A : Option Addr) (c : Nat) (l : List S56) (w : World)
 (hr : Kd.C k56 w A l.length l) (hc : l.length ≤ c) (hp : PredR g lb p w) :
 Calls Try.prog 36 #[.slice A l.length c, .func (.func g) #[] lb] w fun e w' => e = .returned (.bool (l.any p)) ∧ Below w.heap.size w w' := by
 have H := indexFunc_rule g lb eg p A c l w hr hc hp; have hz := zA (idxF_any p l); generalize idxF p l = i at H hz; go_enter Try.func36, Try.ntmps36; go_wp2_with (go_at_call 68; refine H.mono ?_; rintro e w' ⟨rfl, hb'⟩); go_ret; exact ⟨by rw [← hz.out]; rfl, hb'⟩
theorem sliceEqual_loop (a b : List Int) (hl : a.length = b.length) (hb : a.length ≤ 9223372036854775807) (d : Nat) : ∀ (k i : Nat), i ≤ a.length → a.length - i = d → d < k →
 slices_Equal_int_int.l0 k a b a.length i = some (decide (a.drop i = b.drop i)) := by
 induction d with
 | zero =>
  intro k i h1 hd hk; obtain ⟨k, rfl⟩ : ∃ m, k = m + 1 := ⟨k - 1, by omega⟩
  simp only [slices_Equal_int_int.l0]; rw [if_neg (by omega)]; rw [List.drop_of_length_le (by omega), List.drop_of_length_le (by omega)]; simp
 | succ d ih =>
  intro k i h1 hd hk; obtain ⟨k, rfl⟩ : ∃ m, k = m + 1 := ⟨k - 1, by omega⟩
  simp only [slices_Equal_int_int.l0]; rw [if_pos (by omega), if_pos (by omega), if_pos (by omega), if_pos (by omega)]; have hw : wrap64 ((i : Int) + 1) = ((i + 1 : Nat) : Int) := by unfold wrap64; omega
  have ea : a.drop i = rd a i :: a.drop (i + 1) := by
   rw [List.drop_eq_getElem_cons (show i < a.length by omega)]; congr 1; unfold rd; rw [List.getD_eq_getElem?_getD, Int.toNat_natCast, List.getElem?_eq_getElem (by omega)]; rfl
  have eb : b.drop i = rd b i :: b.drop (i + 1) := by
   rw [List.drop_eq_getElem_cons (show i < b.length by omega)]; congr 1; unfold rd; rw [List.getD_eq_getElem?_getD, Int.toNat_natCast, List.getElem?_eq_getElem (by omega)]; rfl
  by_cases he : rd a i = rd b i
  · rw [if_pos he, hw, ih k (i + 1) (by omega) (by omega) (by omega), ea, eb, he]; congr 1; simp
  · rw [if_neg he, ea, eb]; simp [he]
theorem sliceEqual_eq (a b : List Int) (hb : a.length ≤ 9223372036854775807) : ∀ k, a.length < k → slices_Equal_int_int.f k a b = some (decide (a = b)) := by
 intro k hk; unfold slices_Equal_int_int.f; by_cases hl : a.length = b.length
 · rw [if_pos (by omega)]; have := sliceEqual_loop a b hl hb a.length k 0 (by omega) (by omega) hk; simpa using this
 · rw [if_neg (by omega)]; have : a ≠ b := fun h => hl (by rw [h])
   simp [this]
def sameR (a b : S56) : Bool := decide (a.f0 = b.f0 ∧ a.f1 = b.f1)
theorem sameRule_eq (a b : S56) (hb : a.f1.length ≤ 9223372036854775807) : ∀ k, a.f1.length < k → impl_sameRule.f k a.f0 a.f1 b.f0 b.f1 = some (sameR a b) := by
 intro k hk; unfold impl_sameRule.f sameR; by_cases h : a.f0 = b.f0
 · rw [if_pos h, sliceEqual_eq _ _ hb k hk]; simp [h]
 · rw [if_neg h]; simp [h]
def okR (nons toks : Int) (r : S56) : Bool := decide (0 ≤ r.f0 ∧ r.f0 ≤ wrap64 (nons - 1)) && decide (r.f1.length ≤ 4) && !(r.f1.any fun x => !symB nons toks x)
def rulesB (nons toks : Int) (l : List S56) : Nat → Bool
 | 0 => true
 | i + 1 => rulesB nons toks l i && (okR nons toks (rd_T56 l i) && !((l.take i).any fun o => sameR o (rd_T56 l i)))
def goodG (nons toks : Int) (l : List S56) : Bool := decide (1 ≤ nons ∧ nons ≤ 6) && (decide (1 ≤ toks ∧ toks ≤ 4) && (decide (l.length ≤ 16) && rulesB nons toks l l.length))
def impl_isGrammar.f (a0_0 a0_1 : Int) (l0_2 : List S56) : Option Bool := some (goodG a0_0 a0_1 l0_2)
section
variable {α : Type} {d : Kd α} {e base n cap g : Nat} {ok : Nat → Prop} {w w1 : World} {xs : List α}
theorem R_spare (h : d.R e w base ok (.slice (some ⟨g, 0, none⟩) n cap) xs) (hg : ∀ cur, w.heap[g]? = some (.cells cur e (0, 0)) → ∃ cur1, w1.heap[g]? = some (.cells cur1 e (0, 0)) ∧ cur1.size = cur.size ∧ cur1.toList.take (n * d.sz) = cur.toList.take (n * d.sz))
 (hm : ∀ k, k ≠ g → k < w.heap.size → w1.heap[k]? = w.heap[k]?) : d.R e w1 base ok (.slice (some ⟨g, 0, none⟩) n cap) xs := by
 obtain ⟨h0, inner, ho, hr⟩ := Kd.R_bound h; obtain ⟨h1, h2⟩ := ho; have hv : (Value.slice (some ⟨g, 0, none⟩) n cap).ownBlock = some g := rfl; refine ⟨fun k hk => (h0 k hk).1, inner, ⟨h1, ?_⟩, hr.imp_ (fun _ _ hp => d.M_mono (fun k hk => ⟨hk.1.1, hk.2⟩) (d.M_move (fun k hk => hm k (fun e => hk.2 (by rw [hv, e])) hk.1.2.2.1) hp))⟩; rcases h2 with ⟨he, hn⟩ | ⟨g', cap', cur, he, hb, hh, hn, hc, hs, ht⟩
 · cases he
 · injection he with ha hn' hc'; injection ha with ha; injection ha with ha; subst ha; obtain ⟨cur1, k1, k2, k3⟩ := hg cur hh; subst hn' hc'; exact .inr ⟨g, cap, cur1, rfl, hb, k1, hn, hc, by rw [k2]; exact hs, by rw [k3]; exact ht⟩
theorem S_spare (h : Kd.S d e w base ok (.slice (some ⟨g, 0, none⟩) n cap) xs) (hg : ∀ cur, w.heap[g]? = some (.cells cur e (0, 0)) → ∃ cur1, w1.heap[g]? = some (.cells cur1 e (0, 0)) ∧ cur1.size = cur.size ∧ cur1.toList.take (n * d.sz) = cur.toList.take (n * d.sz))
 (hm : ∀ k, k ≠ g → k < w.heap.size → w1.heap[k]? = w.heap[k]?) : Kd.S d e w1 base ok (.slice (some ⟨g, 0, none⟩) n cap) xs := by
 obtain ⟨f, hf⟩ := h; exact ⟨f, R_spare hf hg hm⟩
theorem take_set2 (l : List Value) (m : Nat) (u v : Value) : ((l.set m u).set (m + 1) v).take m = l.take m := by
 apply List.ext_getElem?; intro i; by_cases c : i < m
 · rw [List.getElem?_take_of_lt c, List.getElem?_take_of_lt c, List.getElem?_set_ne (by omega), List.getElem?_set_ne (by omega)]
 · rw [List.getElem?_eq_none (by simp; omega), List.getElem?_eq_none (by simp; omega)]
theorem S_spare2 (hz : d.sz = 2) (h : Kd.S d e w base ok (.slice (some ⟨g, 0, none⟩) n cap) xs) (u v : Value) : Kd.S d e ((w.setCell ⟨g, n * 2, none⟩ u).setCell ⟨g, n * 2 + 1, none⟩ v) base ok (.slice (some ⟨g, 0, none⟩) n cap) xs := by
 refine S_spare h (fun cur hc => ⟨(cur.setIfInBounds (n * 2) u).setIfInBounds (n * 2 + 1) v, zO (zO hc _ _ rfl) _ _ rfl, by simp, ?_⟩) (fun k hk _ => (Below.heap_setCell _ _ _ k hk).trans (Below.heap_setCell _ _ _ k hk)); rw [hz]; simp only [Array.toList_setIfInBounds]; exact take_set2 _ _ _ _
end
section
variable {P : Program} {ops : Array Oper} {rest : List Oper} {o : Oper} {a : Act} {Q : Exit → Act → World → Prop} {α : Type}
theorem grown_below {w w1 : World} {base : Nat} {row : Option Nat} (hg : w.grownBy w1 row) (hr : ∀ k, row = some k → base ≤ k) (hb : base ≤ w.heap.size) : Below base w w1 :=
 ⟨hg.os, hg.tape, hg.output, hg.size, fun k hk => hg.block k (by omega) (fun e => by have := hr k e.symm; omega)⟩
theorem append_keep (d : Kd α) (hsz : d.sz = 2) {W : World} {e base : Nat} {ok : Nat → Prop} (hgd : o.guard = none) (s x : Operand) (t : TypeId) (z : Value) (bytes : Nat)
 (ho : o.op = .call { callee := .builtin .append, args := #[s, x], argTypes := #[t, t] }) (ht : P.underlying t = some (.slice e)) (hinfo : (P.info? e).map (fun i => (i.zero, i.size, i.bytes)) = some (some z, 2, bytes)) (hz : z.cells.size = 2)
 (A0 : Option Addr) (c0 : Nat) (xs : List α) (hs : a.eval s = .slice A0 xs.length c0) (g2 : Nat) (u v : Value) (hx : a.eval x = .slice (some ⟨g2, 0, none⟩) 1 1) (hc0 : W.cell? ⟨g2, 0, none⟩ = some u) (hc1 : W.cell? ⟨g2, 1, none⟩ = some v) (hu1 : u.oneCell' = true) (hv1 : v.oneCell' = true)
 (HO : Kd.S d e W base ok (.slice A0 xs.length c0) xs) (hbase : base ≤ W.heap.size) (hl : (xs.length + 1) * bytes ≤ 140737488355328) (hm : xs.length + 1 ≤ maxLen)
 (h : ∀ A c w1, Kd.S d e w1 base ok (.slice A0 xs.length c0) xs → Below base W w1 → (∀ q, q < W.heap.size → some q ≠ (Value.slice A0 xs.length c0).ownBlock → w1.heap[q]? = W.heap[q]?) → wpList P ops Q rest (a.put o.dst (.slice A (xs.length + 1) c)) w1) : wpList P ops Q (o :: rest) a W := by
 obtain ⟨i0, hi, hzz⟩ := Option.map_eq_some_iff.1 hinfo; simp only [Prod.mk.injEq] at hzz; obtain ⟨hz0, hz1, hz2⟩ := hzz; obtain ⟨h0, inner, ⟨k1, k2⟩, hr⟩ := Kd.S_R HO; rw [hsz] at k1; have news : ∀ j w_, ([u, v] : List Value)[j]? = some w_ → W.cell? ((⟨g2, 0, none⟩ : Addr).add j) = some w_ := by
  intro j w_ hj
  match j with
  | 0 => simp at hj; subst hj; simpa [Addr.add] using hc0
  | 1 => simp at hj; subst hj; simpa [Addr.add] using hc1
  | j + 2 => simp at hj
 have ones : ∀ w_ ∈ ([u, v] : List Value), w_.oneCell' = true := by
  intro w_ hw; simp at hw; rcases hw with rfl | rfl <;> assumption
 have fin : ∀ v' w', w'.ownsRow W.heap.size e 2 v' (xs.length + 1) (inner ++ [u, v]) → W.grownBy w' none → wpList P ops Q rest (a.put o.dst v') w' := by
  intro v' w' hw hg; obtain ⟨A, c, hv'⟩ : ∃ A c, v' = .slice A (xs.length + 1) c := by
   rcases hw.2 with ⟨he, hn⟩ | ⟨g', cap', cur', he, _⟩
   · omega
   · exact ⟨_, _, he⟩
  rw [hv']; exact h A c w' (Kd.S_grown HO hg (fun k _ e => by cases e)) (grown_below hg (fun k e => by cases e) hbase) (fun q hq _ => hg.block q hq (fun e => by cases e))
 rcases k2 with ⟨he, hn⟩ | ⟨g, cap, cur, he, hb, hh, hn, hc, hcs, htk⟩
 · injection he with e1 e2 e3; subst e1 e3; refine wpList_append_grows (P := P) W hgd s x t ho e i0 z 2 bytes ht hi hz0 hz1 hz2 hz (by decide) none xs.length 0 inner hs (fun _ => ⟨hn, rfl⟩) k1 (fun b e => by cases e) ⟨g2, 0, none⟩ 1 1 [u, v] hx rfl news ones (by omega) hm hl fin
 · injection he with e1 e2 e3; subst e1 e3; have hlen : inner.length = xs.length * 2 := k1; have olds : ∀ j w_, inner[j]? = some w_ → W.cell? ⟨g, 0 + j, none⟩ = some w_ := by
    intro j w_ hj; rw [Nat.zero_add]; refine (zK hh j).trans ?_; rw [← htk, hsz] at hj; have hjl : j < xs.length * 2 := by have := (List.getElem?_eq_some_iff.1 hj).1; rw [List.length_take] at this; omega
    rw [List.getElem?_take_of_lt hjl] at hj; rw [← Array.getElem?_toList]; exact hj
   refine wpList_append_arg (P := P) W hgd s x t ho e i0 z 2 bytes ht hi hz0 hz1 hz2 hz (by decide) g 0 xs.length c0 inner hs k1 olds ⟨g2, 0, none⟩ 1 1 [u, v] hx rfl news ones (fun hroom j hj => ?_) hm hl (fun hroom => ?_) (fun _ => fin)
   · have hj2 : 0 + xs.length * 2 + j < cur.size := by rw [hcs, hsz]; simp at hj; omega
     rw [Nat.zero_add] at hj2; exact ⟨by rw [zK hh]; simp only [Nat.zero_add]; rw [Array.getElem?_eq_getElem hj2]; rfl, zL hh _⟩
   · have e9 : W.setCells g (0 + xs.length * 2) [u, v] = (W.setCell ⟨g, xs.length * 2, none⟩ u).setCell ⟨g, xs.length * 2 + 1, none⟩ v := by rw [Nat.zero_add]; rfl
     rw [e9]; refine h _ _ _ (S_spare2 hsz HO u v) ?_ (fun q hq hne => ?_)
     · exact ((Below.refl base W).setCell hb _).setCell hb _
     · have hq2 : q ≠ g := fun e => hne (by rw [e]; rfl)
       exact (Below.heap_setCell _ ⟨g, xs.length * 2 + 1, none⟩ _ q hq2).trans (Below.heap_setCell _ ⟨g, xs.length * 2, none⟩ _ q hq2)
end
theorem S_putz {α : Type} {d : Kd α} {e g t base : Nat} {W W' : World} {ok : Nat → Prop} {v : Value} {xs : List α} {cells : Array Value} (h : Kd.S d e W base ok v xs) (hb : W.heap[g]? = some (.cells cells t (0, 0))) (ht : ∀ q, q ∈ e :: d.E → q ≠ t) (hW : ∀ k, k ≠ g → W'.heap[k]? = W.heap[k]?) : Kd.S d e W' base ok v xs :=
 Kd.S_mono (Kd.S_step (Kd.S_types h hb ht) (fun k hk _ => hW k hk.2)) (fun _ hk => hk.1)
end Go.Proofs.Ytodacikpbcgndaa.P
namespace Go.Proofs.Ytodacikpbcgndaa.P
open Go.RowKit Go.Proofs.YtodacikpbcgndaaW.PrintWords Go.Proofs.YtodacikpbcgndaaW.PrintLast Go.Proofs.YtodacikpbcgndaaW.PrintMore
attribute [local go_sem] max2_int min2_int max_two min_two max_three min_three max_four min_four
set_option linter.unusedVariables false
set_option linter.unusedSimpArgs false
def spec_l1In.f (a0 : Int) (a1 : Int) (a2 : Int) : Option (Bool) := if a0 ≥ a1 then (some (decide (a0 ≤ a2))) else (some false)
set_option maxHeartbeats 8000000 in
set_option maxRecDepth 100000 in
theorem spec_l1In.calls (a0 : Int) (a1 : Int) (a2 : Int) (r : Bool) (w : World) (h : spec_l1In.f a0 a1 a2 = some r) :
 Calls Try.prog 28 #[.int .i64 a0, .int .i64 a1, .int .i64 a2] w fun e w' => e = .returned (.bool r) ∧ Drawn0 w w' := by
 have H : (if a0 ≥ a1 then (some (decide (a0 ≤ a2))) else (some false)) = some r := h; clear h; by_cases c4 : a0 ≥ a1
 · rw [if_pos c4] at H; have c4b0 : decide (a1 ≤ a0) = true := decide_eq_true c4; clear c4; obtain rfl := Option.some.inj H; go_enter Try.func28, Try.ntmps28; go_wp2; go_ret; exact ⟨by first | rfl | (simp; done) | (simp [*]; done), by repeat (first | exact Drawn0.refl _ | apply Drawn0.step)⟩
 · rw [if_neg c4] at H; have c4b0 : decide (a1 ≤ a0) = false := decide_eq_false c4; clear c4; obtain rfl := Option.some.inj H; go_enter Try.func28, Try.ntmps28; go_wp2; go_ret; exact ⟨by first | rfl | (simp; done) | (simp [*]; done), by repeat (first | exact Drawn0.refl _ | apply Drawn0.step)⟩
def spec_l1Symbol.f (a0_0 : Int) (a0_1 : Int) (l0_2 : List (S56)) (a1 : Int) : Option (Bool) := (spec_l1In.f a1 (wrap64 (-a0_1)) (wrap64 (a0_0 - 1))).bind fun t102 => (some t102)
def spec_l1Same.l0 : Nat → List Int → List Int → Int → Int → Option (Bool)
 | 0, _, _, _, _ => none
 | k + 1, x0, x1, x12, x13 => if x13 < x12 then (if 0 ≤ x13 then (if x13 < (x0.length : Int) then (if x13 < (x1.length : Int) then (if (rd x0 x13) = (rd x1 x13) then (spec_l1Same.l0 k x0 x1 x12 (wrap64 (x13 + 1))) else (some false)) else (none)) else (none)) else (none)) else (some true)
def spec_l1Same.f (k : Nat) (l0 : List Int) (l1 : List Int) : Option (Bool) := if (l0.length : Int) = (l1.length : Int) then (spec_l1Same.l0 k l0 l1 (l0.length : Int) 0) else (some false)
set_option maxHeartbeats 8000000 in
set_option maxRecDepth 100000 in
theorem spec_l1Same.calls (k : Nat) (A0 : Option Addr) (c0 : Nat) (l0 : List Int) (A1 : Option Addr) (c1 : Nat) (l1 : List Int) (r : Bool) (w : World) (hr0 : Kd.C (Kd.int .i64) w A0 l0.length l0) (hc0 : l0.length ≤ c0) (hr1 : Kd.C (Kd.int .i64) w A1 l1.length l1) (hc1 : l1.length ≤ c1) (h : spec_l1Same.f k l0 l1 = some r) :
 Calls Try.prog 59 #[.slice A0 l0.length c0, .slice A1 l1.length c1] w fun e w' => e = .returned (.bool r) ∧ Drawn0 w w' := by
 have HR0 := zA hr0; have HC0 := zA hc0; clear hr0 hc0; have HR1 := zA hr1; have HC1 := zA hc1; clear hr1 hc1; have H : (if (l0.length : Int) = (l1.length : Int) then (spec_l1Same.l0 k l0 l1 (l0.length : Int) 0) else (some false)) = some r := h; clear h; by_cases c3 : (l0.length : Int) = (l1.length : Int)
 · rw [if_pos c3] at H; have c3b0 : ((l0.length : Int) == (l1.length : Int)) = true := beq_iff_eq.mpr c3; have c3b1 : ((l0.length : Int) != (l1.length : Int)) = false := bne_eq_false_iff_eq.mpr c3; have c3b2 : (l0.length == l1.length) = true := by first | simpa using c3 | (simp at c3 ⊢; omega)
   clear c3; have H' := zA H; clear H; go_enter Try.func59, Try.ntmps59; go_wp2; (repeat (go_quiet (fail); try go_wp2)); go_loopg [13] k (fun kq v13 w' => ∃ (x13_1 : Int), v13 = .int .i64 x13_1 ∧ Aside0 (spec_l1Same.l0 kq l0 l1 (l0.length : Int) x13_1 = some r) ∧ Aside0 (kq ≤ k) ∧ Drawn0 w w')
   case atStart => exact ⟨(0), (by first | rfl | (simp; done) | (simp [*]; done)), H', ⟨Nat.le_refl _⟩, by repeat (first | exact Drawn0.refl _ | apply Drawn0.step)⟩
   case round =>
    clear H'; (try clear c1); (try clear p2); (try clear c3); (try clear c3b0); (try clear c3b1); (try clear c3b2); obtain ⟨x13_1, rfl, HA, HK1, ⟨m1, rfl⟩⟩ := hrel; cases gk with
    | zero => exact absurd HA.out (by simp [spec_l1Same.l0])
    | succ k1 =>
     have H := HA.out; clear HA; simp only [spec_l1Same.l0] at H; by_cases c4 : x13_1 < (l0.length : Int)
     · rw [if_pos c4] at H; have c4b0 : decide (x13_1 < (l0.length : Int)) = true := decide_eq_true c4; clear c4; by_cases c5 : 0 ≤ x13_1
       · rw [if_pos c5] at H; have c5b0 : decide (0 ≤ x13_1) = true := decide_eq_true c5; clear c5; by_cases c6 : x13_1 < (l0.length : Int)
         · rw [if_pos c6] at H; have c6b0 : decide (x13_1 < (l0.length : Int)) = true := decide_eq_true c6; clear c6; by_cases c7 : x13_1 < (l1.length : Int)
           · rw [if_pos c7] at H; have c7b0 : decide (x13_1 < (l1.length : Int)) = true := decide_eq_true c7; clear c7; by_cases c8 : (rd l0 x13_1) = (rd l1 x13_1)
             · rw [if_pos c8] at H; have c8b0 : ((rd l0 x13_1) == (rd l1 x13_1)) = true := beq_iff_eq.mpr c8; have c8b1 : ((rd l0 x13_1) != (rd l1 x13_1)) = false := bne_eq_false_iff_eq.mpr c8; clear c8; have H' := zA H; clear H; have p101 : 0 ≤ (x13_1 : Int) := of_decide_eq_true (by assumption); have q101 : x13_1 < (l0.length : Int) := of_decide_eq_true (by assumption); obtain ⟨ad101, e101, hx101_0⟩ := Kd.at_int HR0.out x13_1 p101 q101; cases e101; replace p101 := eq_true p101; replace q101 := eq_true q101; have p102 : 0 ≤ (x13_1 : Int) := of_decide_eq_true (by assumption); have q102 : x13_1 < (l1.length : Int) := of_decide_eq_true (by assumption); obtain ⟨ad102, e102, hx102_0⟩ := Kd.at_int HR1.out x13_1 p102 q102; cases e102; replace p102 := eq_true p102; replace q102 := eq_true q102; go_wp2; repeat (go_quiet (fail); try go_wp2)
               go_roundg k1
               case measure => have := HK1.out; omega
               case rel => exact ⟨(wrap64 (x13_1 + 1)), (by first | rfl | (simp; done) | (simp [*]; done)), H', ⟨by have := HK1.out; omega⟩, by repeat (first | exact Drawn0.refl _ | apply Drawn0.step)⟩
             · rw [if_neg c8] at H; have c8b0 : ((rd l0 x13_1) == (rd l1 x13_1)) = false := beq_eq_false_iff_ne.mpr c8; have c8b1 : ((rd l0 x13_1) != (rd l1 x13_1)) = true := bne_iff_ne.mpr c8; obtain rfl := Option.some.inj H; have p101 : 0 ≤ (x13_1 : Int) := of_decide_eq_true (by assumption); have q101 : x13_1 < (l0.length : Int) := of_decide_eq_true (by assumption); obtain ⟨ad101, e101, hx101_0⟩ := Kd.at_int HR0.out x13_1 p101 q101; cases e101; replace p101 := eq_true p101; replace q101 := eq_true q101; have p102 : 0 ≤ (x13_1 : Int) := of_decide_eq_true (by assumption); have q102 : x13_1 < (l1.length : Int) := of_decide_eq_true (by assumption); obtain ⟨ad102, e102, hx102_0⟩ := Kd.at_int HR1.out x13_1 p102 q102; cases e102; replace p102 := eq_true p102; replace q102 := eq_true q102; go_wp2; (repeat (go_quiet (fail); try go_wp2)); go_ret; exact ⟨by first | rfl | (simp; done) | (simp [*]; done), by repeat (first | exact Drawn0.refl _ | apply Drawn0.step)⟩
           · rw [if_neg c7] at H; exact absurd H (by simp)
         · rw [if_neg c6] at H; exact absurd H (by simp)
       · rw [if_neg c5] at H; exact absurd H (by simp)
     · rw [if_neg c4] at H; have c4b0 : decide (x13_1 < (l0.length : Int)) = false := decide_eq_false c4; clear c4; obtain rfl := Option.some.inj H; go_wp2; (repeat (go_quiet (fail); try go_wp2)); go_ret; exact ⟨by first | rfl | (simp; done) | (simp [*]; done), by repeat (first | exact Drawn0.refl _ | apply Drawn0.step)⟩
 · rw [if_neg c3] at H; have c3b0 : ((l0.length : Int) == (l1.length : Int)) = false := beq_eq_false_iff_ne.mpr c3; have c3b1 : ((l0.length : Int) != (l1.length : Int)) = true := bne_iff_ne.mpr c3; have c3b2 : (l0.length == l1.length) = false := by first | simpa using c3 | (simp at c3 ⊢; omega)
   obtain rfl := Option.some.inj H; go_enter Try.func59, Try.ntmps59; go_wp2; (repeat (go_quiet (fail); try go_wp2)); go_ret; exact ⟨by first | rfl | (simp; done) | (simp [*]; done), by repeat (first | exact Drawn0.refl _ | apply Drawn0.step)⟩
def spec_l1SameRule.f (k : Nat) (a0_0 : Int) (l0_1 : List Int) (a1_0 : Int) (l1_1 : List Int) : Option (Bool) := if a0_0 = a1_0 then ((spec_l1Same.f k l0_1 l1_1).bind fun t103 => (some t103)) else (some false)
set_option maxHeartbeats 8000000 in
set_option maxRecDepth 100000 in
theorem spec_l1SameRule.calls (k : Nat) (a0_0 : Int) (A0_1 : Option Addr) (c0_1 : Nat) (l0_1 : List Int) (a1_0 : Int) (A1_1 : Option Addr) (c1_1 : Nat) (l1_1 : List Int) (r : Bool) (w : World) (hr0_1 : Kd.C (Kd.int .i64) w A0_1 l0_1.length l0_1) (hc0_1 : l0_1.length ≤ c0_1) (hr1_1 : Kd.C (Kd.int .i64) w A1_1 l1_1.length l1_1) (hc1_1 : l1_1.length ≤ c1_1) (h : spec_l1SameRule.f k a0_0 l0_1 a1_0 l1_1 = some r) :
 Calls Try.prog 30 #[.agg #[.int .i64 a0_0, .slice A0_1 l0_1.length c0_1], .agg #[.int .i64 a1_0, .slice A1_1 l1_1.length c1_1]] w fun e w' => e = .returned (.bool r) ∧ Below w.heap.size w w' := by
 have hu56 := Try.underlying56; have HR0_1 := zA hr0_1; have HC0_1 := zA hc0_1; clear hr0_1 hc0_1; have HR1_1 := zA hr1_1; have HC1_1 := zA hc1_1; clear hr1_1 hc1_1; have HB := zA (Below.refl w.heap.size w); have H : (if a0_0 = a1_0 then ((spec_l1Same.f k l0_1 l1_1).bind fun t103 => (some t103)) else (some false)) = some r := h; clear h; by_cases c3 : a0_0 = a1_0
 · rw [if_pos c3] at H; have c3b0 : (a0_0 == a1_0) = true := beq_iff_eq.mpr c3; have c3b1 : (a0_0 != a1_0) = false := bne_eq_false_iff_eq.mpr c3; clear c3; replace H := Option.bind_eq_some_iff.mp H; obtain ⟨t103, A40, H⟩ := H; replace H : (some t103) = some r := H; have A4 := zA A40; clear A40; obtain rfl := Option.some.inj H; go_enter Try.func30, Try.ntmps30; go_wp2_with (first | ((with_reducible refine gate_dst (N := 2) rfl ?_); refine box_event ?hg (N := 2) ?hd (cs := #[.int .i64 a0_0, .slice A0_1 l0_1.length c0_1]) (t := 56) ?hr ?_; (case hd => rfl); (case hg => rfl); (case hr => first | (go_simp; done) | (go_simp; rfl)); intro gb101 hg w5 hbox hb; have n0_ := zA (zG (by repeat (first | (with_reducible first | exact HB.out | apply zB | apply zC | apply zD) | exact HB.out)) hb); have n1_ := zA (hbox); have n2_ := zA ((by rw [hg]; exact (zF (by repeat (first | (with_reducible first | exact HB.out | apply zB | apply zC | apply zD) | exact HB.out))) : w.heap.size ≤ gb101)); have n3_ := zA ((by rw [hg]; exact (zF (by repeat (first | (with_reducible first | exact HB.out | apply zB | apply zC | apply zD) | exact HB.out))) : w.heap.size ≤ gb101)); clear HB; have HB := n0_; have BK101 := n1_; have GW101 := n2_; have GE101 := n3_; clear n0_ n1_ n2_ n3_; clear hb hbox hg) | ((with_reducible refine gate_dst (N := 3) rfl ?_); refine box_event ?hg (N := 3) ?hd (cs := #[.int .i64 a1_0, .slice A1_1 l1_1.length c1_1]) (t := 56) ?hr ?_; (case hd => rfl); (case hg => rfl); (case hr => first | (go_simp; done) | (go_simp; rfl)); intro gb102 hg w6 hbox hb; have n0_ := zA (zM (g := gb101) (o := .cells #[.int .i64 a0_0, .slice A0_1 l0_1.length c0_1] 56 (0, 0)) (by (with_reducible repeat (first | refine blk_drewN ?_ _ | refine blk_drew ?_ | refine zH ?_ _)); exact BK101.out) hb); have n1_ := zA (zG (by repeat (first | (with_reducible first | exact HB.out | apply zB | apply zC | apply zD | refine zE ?_ GE101.out) | exact HB.out)) hb); have n2_ := zA (hbox); have n3_ := zA ((by rw [hg]; exact (zF (by repeat (first | (with_reducible first | exact HB.out | apply zB | apply zC | apply zD | refine zE ?_ GE101.out) | exact HB.out))) : w.heap.size ≤ gb102)); have n4_ := zA ((by rw [hg]; exact (zF (by repeat (first | (with_reducible first | exact HB.out | apply zB | apply zC | apply zD | refine zE ?_ GE101.out) | exact HB.out))) : w.heap.size ≤ gb102)); have n5_ := zA ((by rw [hg]; exact Nat.ne_of_lt (blk_lt (g := gb101) (o := .cells #[.int .i64 a0_0, .slice A0_1 l0_1.length c0_1] 56 (0, 0)) (by (with_reducible repeat (first | refine blk_drewN ?_ _ | refine blk_drew ?_ | refine zH ?_ _)); exact BK101.out)) : gb101 ≠ gb102)); have n6_ := zA ((by rw [hg]; exact Nat.ne_of_gt (blk_lt (g := gb101) (o := .cells #[.int .i64 a0_0, .slice A0_1 l0_1.length c0_1] 56 (0, 0)) (by (with_reducible repeat (first | refine blk_drewN ?_ _ | refine blk_drew ?_ | refine zH ?_ _)); exact BK101.out)) : gb102 ≠ gb101)); clear BK101; clear HB; have BK101 := n0_; have HB := n1_; have BK102 := n2_; have GW102 := n3_; have GE102 := n4_; have NB101_102 := n5_; have NB102_101 := n6_; clear n0_ n1_ n2_ n3_ n4_ n5_ n6_; clear hb hbox hg; have hnb7 := NB101_102.out; have hnc7 := NB102_101.out; have hcz8_0 : w6.cell? ⟨gb101, 0, none⟩ = some (.int .i64 a0_0) := (zK BK101.out 0).trans rfl; have hcz8_1 : w6.cell? ⟨gb101, 1, none⟩ = some (.slice A0_1 l0_1.length c0_1) := (zK BK101.out 1).trans rfl; have hfz8_0 := zL BK101.out 0; have hfz8_1 := zL BK101.out 1; have hcz9_0 : w6.cell? ⟨gb102, 0, none⟩ = some (.int .i64 a1_0) := (zK BK102.out 0).trans rfl; have hcz9_1 : w6.cell? ⟨gb102, 1, none⟩ = some (.slice A1_1 l1_1.length c1_1) := (zK BK102.out 1).trans rfl; have hfz9_0 := zL BK102.out 0; have hfz9_1 := zL BK102.out 1) | (go_at_call 59; (with_reducible refine (spec_l1Same.calls k _ _ l0_1 _ _ l1_1 t103 _ ?side1 ?side2 ?side3 ?side4 A4.out).mono ?_); (case side1 => repeat (first | exact (zS HR0_1.out HB.out) | refine Kd.C_alloc ?_ _ | refine Kd.C_drewN ?_ _ | refine Kd.C_drew ?_)); (case side2 => exact HC0_1.out); (case side3 => repeat (first | exact (zS HR1_1.out HB.out) | refine Kd.C_alloc ?_ _ | refine Kd.C_drewN ?_ _ | refine Kd.C_drew ?_)); (case side4 => exact HC1_1.out); rintro e w' ⟨rfl, ⟨nd, rfl⟩⟩)); go_ret; exact ⟨by first | rfl | (simp [errW_none, errW_some] <;> rfl) | (simp [*, errW_none, errW_some] <;> rfl), by repeat (first | (with_reducible first | exact HB.out | apply zB | apply zC | apply zD | refine zE ?_ GE101.out | refine zE ?_ GE102.out) | exact HB.out)⟩
 · rw [if_neg c3] at H; have c3b0 : (a0_0 == a1_0) = false := beq_eq_false_iff_ne.mpr c3; have c3b1 : (a0_0 != a1_0) = true := bne_iff_ne.mpr c3; obtain rfl := Option.some.inj H; go_enter Try.func30, Try.ntmps30; go_wp2_with (first | ((with_reducible refine gate_dst (N := 2) rfl ?_); refine box_event ?hg (N := 2) ?hd (cs := #[.int .i64 a0_0, .slice A0_1 l0_1.length c0_1]) (t := 56) ?hr ?_; (case hd => rfl); (case hg => rfl); (case hr => first | (go_simp; done) | (go_simp; rfl)); intro gb101 hg w10 hbox hb; have n0_ := zA (zG (by repeat (first | (with_reducible first | exact HB.out | apply zB | apply zC | apply zD) | exact HB.out)) hb); have n1_ := zA (hbox); have n2_ := zA ((by rw [hg]; exact (zF (by repeat (first | (with_reducible first | exact HB.out | apply zB | apply zC | apply zD) | exact HB.out))) : w.heap.size ≤ gb101)); have n3_ := zA ((by rw [hg]; exact (zF (by repeat (first | (with_reducible first | exact HB.out | apply zB | apply zC | apply zD) | exact HB.out))) : w.heap.size ≤ gb101)); clear HB; have HB := n0_; have BK101 := n1_; have GW101 := n2_; have GE101 := n3_; clear n0_ n1_ n2_ n3_; clear hb hbox hg) | ((with_reducible refine gate_dst (N := 3) rfl ?_); refine box_event ?hg (N := 3) ?hd (cs := #[.int .i64 a1_0, .slice A1_1 l1_1.length c1_1]) (t := 56) ?hr ?_; (case hd => rfl); (case hg => rfl); (case hr => first | (go_simp; done) | (go_simp; rfl)); intro gb102 hg w11 hbox hb; have n0_ := zA (zM (g := gb101) (o := .cells #[.int .i64 a0_0, .slice A0_1 l0_1.length c0_1] 56 (0, 0)) (by (with_reducible repeat (first | refine blk_drewN ?_ _ | refine blk_drew ?_ | refine zH ?_ _)); exact BK101.out) hb); have n1_ := zA (zG (by repeat (first | (with_reducible first | exact HB.out | apply zB | apply zC | apply zD | refine zE ?_ GE101.out) | exact HB.out)) hb); have n2_ := zA (hbox); have n3_ := zA ((by rw [hg]; exact (zF (by repeat (first | (with_reducible first | exact HB.out | apply zB | apply zC | apply zD | refine zE ?_ GE101.out) | exact HB.out))) : w.heap.size ≤ gb102)); have n4_ := zA ((by rw [hg]; exact (zF (by repeat (first | (with_reducible first | exact HB.out | apply zB | apply zC | apply zD | refine zE ?_ GE101.out) | exact HB.out))) : w.heap.size ≤ gb102)); have n5_ := zA ((by rw [hg]; exact Nat.ne_of_lt (blk_lt (g := gb101) (o := .cells #[.int .i64 a0_0, .slice A0_1 l0_1.length c0_1] 56 (0, 0)) (by (with_reducible repeat (first | refine blk_drewN ?_ _ | refine blk_drew ?_ | refine zH ?_ _)); exact BK101.out)) : gb101 ≠ gb102)); have n6_ := zA ((by rw [hg]; exact Nat.ne_of_gt (blk_lt (g := gb101) (o := .cells #[.int .i64 a0_0, .slice A0_1 l0_1.length c0_1] 56 (0, 0)) (by (with_reducible repeat (first | refine blk_drewN ?_ _ | refine blk_drew ?_ | refine zH ?_ _)); exact BK101.out)) : gb102 ≠ gb101)); clear BK101; clear HB; have BK101 := n0_; have HB := n1_; have BK102 := n2_; have GW102 := n3_; have GE102 := n4_; have NB101_102 := n5_; have NB102_101 := n6_; clear n0_ n1_ n2_ n3_ n4_ n5_ n6_; clear hb hbox hg; have hnb12 := NB101_102.out; have hnc12 := NB102_101.out; have hcz13_0 : w11.cell? ⟨gb101, 0, none⟩ = some (.int .i64 a0_0) := (zK BK101.out 0).trans rfl; have hcz13_1 : w11.cell? ⟨gb101, 1, none⟩ = some (.slice A0_1 l0_1.length c0_1) := (zK BK101.out 1).trans rfl; have hfz13_0 := zL BK101.out 0; have hfz13_1 := zL BK101.out 1; have hcz14_0 : w11.cell? ⟨gb102, 0, none⟩ = some (.int .i64 a1_0) := (zK BK102.out 0).trans rfl; have hcz14_1 : w11.cell? ⟨gb102, 1, none⟩ = some (.slice A1_1 l1_1.length c1_1) := (zK BK102.out 1).trans rfl; have hfz14_0 := zL BK102.out 0; have hfz14_1 := zL BK102.out 1)); go_ret; exact ⟨by first | rfl | (simp [errW_none, errW_some] <;> rfl) | (simp [*, errW_none, errW_some] <;> rfl), by repeat (first | (with_reducible first | exact HB.out | apply zB | apply zC | apply zD | refine zE ?_ GE101.out | refine zE ?_ GE102.out) | exact HB.out)⟩
mutual
def spec_GoodGrammar.j0 : Nat → Bool → Int → Int → List (S56) → Option (Bool)
 | 0, _, _, _, _ => none
 | k + 1, x24, x102000, x102001, x102002 => if x24 = true then (some false) else (spec_GoodGrammar.l0 k x102002 (x102002.length : Int) 0 x102000 x102001 x102002)
def spec_GoodGrammar.l0 : Nat → List (S56) → Int → Int → Int → Int → List (S56) → Option (Bool)
 | 0, _, _, _, _, _, _ => none
 | k + 1, x26, x27, x28, x102000, x102001, x102002 => if x28 < x27 then (if 0 ≤ x28 then (if x28 < (x26.length : Int) then ((spec_l1In.f ((rd_T56 x26 x28).f0) 0 (wrap64 (x102000 - 1))).bind fun t106 => (if t106 = true then (spec_GoodGrammar.j2 k x28 x26 x27 x28 (decide ((((rd_T56 x26 x28).f1).length : Int) > 4)) x102000 x102001 x102002 ((rd_T56 x26 x28).f0) ((rd_T56 x26 x28).f1)) else (spec_GoodGrammar.j2 k x28 x26 x27 x28 true x102000 x102001 x102002 ((rd_T56 x26 x28).f0) ((rd_T56 x26 x28).f1)))) else (none)) else (none)) else (some true)
def spec_GoodGrammar.j2 : Nat → Int → List (S56) → Int → Int → Bool → Int → Int → List (S56) → Int → List Int → Option (Bool)
 | 0, _, _, _, _, _, _, _, _, _, _ => none
 | k + 1, x3, x26, x27, x28, x45, x102000, x102001, x102002, x106000, x106001 => if x45 = true then (some false) else (spec_GoodGrammar.l1 k x3 x26 x27 x28 x106001 (x106001.length : Int) 0 x102000 x102001 x102002 x106000 x106001)
def spec_GoodGrammar.l1 : Nat → Int → List (S56) → Int → Int → List Int → Int → Int → Int → Int → List (S56) → Int → List Int → Option (Bool)
 | 0, _, _, _, _, _, _, _, _, _, _, _, _ => none
 | k + 1, x3, x26, x27, x28, x47, x48, x49, x102000, x102001, x102002, x106000, x106001 => if x49 < x48 then (if 0 ≤ x49 then (if x49 < (x47.length : Int) then ((spec_l1Symbol.f x102000 x102001 x102002 (rd x47 x49)).bind fun t108 => (if t108 = true then (spec_GoodGrammar.l1 k x3 x26 x27 x28 x47 x48 (wrap64 (x49 + 1)) x102000 x102001 x102002 x106000 x106001) else (some false))) else (none)) else (none)) else (if 0 ≤ x3 then (if x3 ≤ (x102002.length : Int) then ((some (x102002.take (x3 : Int).toNat : List (S56))).bind fun y109 => (spec_GoodGrammar.l2 k x26 x27 x28 y109 (y109.length : Int) 0 x102000 x102001 x102002 x106000 x106001)) else (none)) else (none))
def spec_GoodGrammar.l2 : Nat → List (S56) → Int → Int → List (S56) → Int → Int → Int → Int → List (S56) → Int → List Int → Option (Bool)
 | 0, _, _, _, _, _, _, _, _, _, _, _ => none
 | k + 1, x26, x27, x28, x61, x62, x63, x102000, x102001, x102002, x106000, x106001 => if x63 < x62 then (if 0 ≤ x63 then (if x63 < (x61.length : Int) then ((spec_l1SameRule.f k x106000 x106001 ((rd_T56 x61 x63).f0) ((rd_T56 x61 x63).f1)).bind fun t115 => (if t115 = true then (some false) else (spec_GoodGrammar.l2 k x26 x27 x28 x61 x62 (wrap64 (x63 + 1)) x102000 x102001 x102002 x106000 x106001))) else (none)) else (none)) else (spec_GoodGrammar.l0 k x26 x27 (wrap64 (x28 + 1)) x102000 x102001 x102002)
end
def spec_GoodGrammar.f (k : Nat) (a0_0 : Int) (a0_1 : Int) (l0_2 : List (S56)) : Option (Bool) := (spec_l1In.f a0_0 1 6).bind fun t102 => (if t102 = true then ((spec_l1In.f a0_1 1 4).bind fun t103 => (if t103 = true then (spec_GoodGrammar.j0 k (decide ((l0_2.length : Int) > 16)) a0_0 a0_1 l0_2) else (spec_GoodGrammar.j0 k true a0_0 a0_1 l0_2))) else (spec_GoodGrammar.j0 k true a0_0 a0_1 l0_2))
end Go.Proofs.Ytodacikpbcgndaa.P
namespace Go.Proofs.Ytodacikpbcgndaa.P
open Go.RowKit Go.Proofs.YtodacikpbcgndaaW.PrintWords
set_option linter.unusedVariables false
set_option linter.unusedSimpArgs false
theorem l1Same_loop (a b : List Int) (hl : a.length = b.length) (hb : a.length ≤ 9223372036854775807) (d : Nat) : ∀ (k i : Nat), i ≤ a.length → a.length - i = d → d < k →
 spec_l1Same.l0 k a b a.length i = some (decide (a.drop i = b.drop i)) := by
 induction d with
 | zero =>
  intro k i h1 hd hk; obtain ⟨k, rfl⟩ : ∃ m, k = m + 1 := ⟨k - 1, by omega⟩
  simp only [spec_l1Same.l0]; rw [if_neg (by omega)]; rw [List.drop_of_length_le (by omega), List.drop_of_length_le (by omega)]; simp
 | succ d ih =>
  intro k i h1 hd hk; obtain ⟨k, rfl⟩ : ∃ m, k = m + 1 := ⟨k - 1, by omega⟩
  simp only [spec_l1Same.l0]; rw [if_pos (by omega), if_pos (by omega), if_pos (by omega), if_pos (by omega)]; have hw : wrap64 ((i : Int) + 1) = ((i + 1 : Nat) : Int) := by unfold wrap64; omega
  have ea : a.drop i = rd a i :: a.drop (i + 1) := getD_drop a i 0 (by omega); have eb : b.drop i = rd b i :: b.drop (i + 1) := getD_drop b i 0 (by omega); by_cases he : rd a i = rd b i
  · rw [if_pos he, hw, ih k (i + 1) (by omega) (by omega) (by omega), ea, eb, he]; congr 1; simp
  · rw [if_neg he, ea, eb]; simp [he]
theorem l1Same_eq (a b : List Int) (hb : a.length ≤ 9223372036854775807) : ∀ k, a.length < k → spec_l1Same.f k a b = some (decide (a = b)) := by
 intro k hk; unfold spec_l1Same.f; by_cases hl : a.length = b.length
 · rw [if_pos (by omega)]; have := l1Same_loop a b hl hb a.length k 0 (by omega) (by omega) hk; simpa using this
 · rw [if_neg (by omega)]; have : a ≠ b := fun h => hl (by rw [h])
   simp [this]
theorem l1SameRule_eq (a b : S56) (hb : a.f1.length ≤ 9223372036854775807) : ∀ k, a.f1.length < k → spec_l1SameRule.f k a.f0 a.f1 b.f0 b.f1 = some (sameR a b) := by
 intro k hk; unfold spec_l1SameRule.f sameR; by_cases h : a.f0 = b.f0
 · rw [if_pos h, l1Same_eq _ _ hb k hk]; simp [h]
 · rw [if_neg h]; simp [h]
theorem sameR_comm (a b : S56) : sameR a b = sameR b a := by
 unfold sameR; rw [decide_eq_decide]; constructor <;> rintro ⟨h, h'⟩ <;> exact ⟨h.symm, h'.symm⟩
def goodD (nons toks : Int) (l : List S56) : Nat → Bool
 | 0 => true
 | d + 1 => (okR nons toks (rd_T56 l (l.length - (d + 1) : Nat)) && !((l.take (l.length - (d + 1))).any fun o => sameR o (rd_T56 l (l.length - (d + 1) : Nat)))) && goodD nons toks l d
def ltN (n c : Int) : Option Int :=
 if c = 83 ∧ 0 < n then some 0 else if c = 65 ∧ 1 < n then some 1 else if c = 66 ∧ 2 < n then some 2 else if c = 67 ∧ 3 < n then some 3 else if c = 68 ∧ 4 < n then some 4 else if c = 69 ∧ 5 < n then some 5 else none
def symN (n t c : Int) : Option Int := match ltN n c with
 | some k => some k
 | none => if 97 ≤ c ∧ c < 97 + t then some (96 - c) else none
def rightF (n t : Int) (s : ByteArray) : Nat → Nat → List Int → Int × Nat × List Int
 | 0, q, xs => (4, q, xs)
 | f + 1, q, xs =>
  if q < s.size ∧ bt s q = 10 then (0, q + 1, xs)
  else if xs.length = 4 then (4, q, xs)
  else if s.size ≤ q then (3, q, xs)
  else match symN n t (bt s q) with
   | none => (3, q, xs)
   | some x => rightF n t s f (q + 1) (xs ++ [x])
def lineF (n t : Int) (s : ByteArray) (q : Nat) (rs : List S56) : Int × Nat × List S56 :=
 match ltN n (bt s q) with
 | none => (3, q, rs)
 | some a =>
  if q + 1 < s.size ∧ bt s (q + 1 : Nat) = 61 then
   if (rightF n t s 5 (q + 2) []).1 ≠ 0 then ((rightF n t s 5 (q + 2) []).1, (rightF n t s 5 (q + 2) []).2.1, rs)
   else if rs.any (fun o => sameR o ⟨a, (rightF n t s 5 (q + 2) []).2.2⟩) = true then (5, q, rs)
   else if rs.length = 16 then (6, q, rs)
   else (0, (rightF n t s 5 (q + 2) []).2.1, rs ++ [⟨a, (rightF n t s 5 (q + 2) []).2.2⟩])
  else (3, q + 1, rs)
def linesF (n t : Int) (s : ByteArray) : Nat → Nat → List S56 → Int × Nat × List S56
 | 0, q, rs => (0, q, rs)
 | f + 1, q, rs => if s.size ≤ q then (0, q, rs) else if (lineF n t s q rs).1 ≠ 0 then lineF n t s q rs else linesF n t s f (lineF n t s q rs).2.1 (lineF n t s q rs).2.2
def headF (s : ByteArray) : Nat :=
 if 0 < s.size ∧ 49 ≤ bt s 0 ∧ bt s 0 ≤ 54 then
  if 1 < s.size ∧ bt s 1 = 32 then
   if 2 < s.size ∧ 49 ≤ bt s 2 ∧ bt s 2 ≤ 52 then
    if 3 < s.size ∧ bt s 3 = 10 then 4 else 3
   else 2
  else 1
 else 0
def readG (s : ByteArray) : Int × Int × List S56 × Int × Int × Bool :=
 if 600 < s.size then (0, 0, [], 1, 0, false)
 else if headF s = 4 then
  if (linesF (bt s 0 - 48) (bt s 2 - 48) s (s.size + 1) 4 []).1 = 0 then (bt s 0 - 48, bt s 2 - 48, (linesF (bt s 0 - 48) (bt s 2 - 48) s (s.size + 1) 4 []).2.2, 0, 0, true)
  else (0, 0, [], (linesF (bt s 0 - 48) (bt s 2 - 48) s (s.size + 1) 4 []).1, (linesF (bt s 0 - 48) (bt s 2 - 48) s (s.size + 1) 4 []).2.1, false)
 else (0, 0, [], 2, headF s, false)
theorem rightF_up (n t : Int) (s : ByteArray) : ∀ (f q : Nat) (xs : List Int), q ≤ (rightF n t s f q xs).2.1 ∧ ((rightF n t s f q xs).1 = 0 → q < (rightF n t s f q xs).2.1 ∧ (rightF n t s f q xs).2.1 ≤ s.size) ∧ (xs.length ≤ 4 → (rightF n t s f q xs).2.2.length ≤ 4)
 | 0, q, xs => ⟨Nat.le_refl _, fun h => by simp [rightF] at h, fun h => h⟩
 | f + 1, q, xs => by
  unfold rightF
  split
  · rename_i h; exact ⟨Nat.le_succ _, fun _ => ⟨Nat.lt_succ_self _, h.1⟩, fun h => h⟩
  · split
    · exact ⟨Nat.le_refl _, fun h => by simp at h, fun h => h⟩
    · split
      · exact ⟨Nat.le_refl _, fun h => by simp at h, fun h => h⟩
      · split
        · exact ⟨Nat.le_refl _, fun h => by simp at h, fun h => h⟩
        · rename_i h4 _ x _
          obtain ⟨h1, h2, h3⟩ := rightF_up n t s f (q + 1) (xs ++ [x]); exact ⟨by omega, fun h => ⟨by have := (h2 h).1; omega, (h2 h).2⟩, fun h => h3 (by rw [List.length_append]; simp; omega)⟩
theorem lineF_up (n t : Int) (s : ByteArray) (q : Nat) (rs : List S56) (h : (lineF n t s q rs).1 = 0) : q < (lineF n t s q rs).2.1 ∧ (lineF n t s q rs).2.1 ≤ s.size := by
 unfold lineF at h ⊢
 split at h
 · simp at h
 · split at h
   · rename_i h0
     rw [if_pos h0]
     split at h
     · rename_i h1; exact absurd h h1
     · rename_i h1
       rw [if_neg h1]
       split at h
       · simp at h
       · rename_i h2
         rw [if_neg h2]
         split at h
         · simp at h
         · rename_i h3
           rw [if_neg h3]; have h5 := (rightF_up n t s 5 (q + 2) []).2.1 (Classical.not_not.1 h1); exact ⟨by show q < (rightF n t s 5 (q + 2) []).2.1; omega, h5.2⟩
   · simp at h
end Go.Proofs.Ytodacikpbcgndaa.P
namespace Go.Proofs
open Go.Shelf
def Try.idxb_ren : Go.Shelf.Ren := ⟨fun | 137 => 78 | 217 => 81 | 266 => 82 | n => n, fun | 9 => 9 | 5 => 5 | 3 => 3 | n => n, fun | n => n⟩
theorem Try.idxb : Go.Proofs.Lays.n137 Try.prog Try.idxb_ren := {
 mixed := by kernel_rfl,
 f137 := Try.func78.trans (congrArg some (by kernel_rfl)),
 f217 := Try.func81.trans (congrArg some (by kernel_rfl)),
 f266 := Try.func82.trans (congrArg some (by kernel_rfl)),
 t3 := Try.underlying3,
 a3 := Try.isAgg3,
 z3 := Try.sizeOf3,
 v3 := Try.zeroValue3,
 t5 := Try.underlying5,
 a5 := Try.isAgg5,
 z5 := Try.sizeOf5,
 v5 := Try.zeroValue5,
 t9 := Try.underlying9,
 a9 := Try.isAgg9,
 z9 := Try.sizeOf9,
 v9 := Try.zeroValue9
 }
end Go.Proofs
namespace Go.Proofs.Ytodacikpbcgndaa.P
open Go.RowKit Go.Proofs.YtodacikpbcgndaaW.PrintWords Go.Proofs.YtodacikpbcgndaaW.PrintLast Go.Proofs.YtodacikpbcgndaaW.PrintMore
set_option linter.unusedVariables false
set_option linter.unusedSimpArgs false
structure Later (w : World) where
 v : World
 below : Below w.heap.size w v
instance (w : World) : Inhabited (Later w) := ⟨⟨w, Below.refl _ w⟩⟩
theorem wp_region_later {P : Program} {id : Nat} {Q : Exit → Act → World → Prop} {a : Act} {w : World} {l : List Oper} (hm : P.follows .mixedOrders = true) (hB : Region.lexB .any l.toArray = true)
 (h : wpQuiet P l.toArray (fun w' => ∃ p : Later w, w' = p.v) (fun a' => ∀ w', (∃ p : Later w, w' = p.v) → Q .normal a' w') l a) : (Code.region id l.toArray true).wp P Q a w :=
 wp_region_quiet (C := fun w' => ∃ p : Later w, w' = p.v) hm hB ⟨⟨w.drew, (Below.refl _ w).drew⟩, rfl⟩ (by simpa using h)
theorem Later.cell {w : World} {a : Addr} {v : Value} (h : w.cell? a = some v) (p : Later w) : p.v.cell? a = some v := (p.below.cell (World.block_lt_of_cell? w _ h)).trans h
end Go.Proofs.Ytodacikpbcgndaa.P
namespace Go.Proofs.Ytodacikpbcgndaa.P
open Go.RowKit Go.Proofs.YtodacikpbcgndaaW.PrintWords Go.Proofs.YtodacikpbcgndaaW.PrintLast Go.Proofs.YtodacikpbcgndaaW.PrintMore
attribute [local go_sem] max2_int min2_int max_two min_two max_three min_three max_four min_four
set_option linter.unusedVariables false
set_option linter.unusedSimpArgs false
def impl_symbolOf.f (a0 : Int) : Option (Int) := some (wrap64 ((-1) - a0))
set_option maxHeartbeats 8000000 in
set_option maxRecDepth 100000 in
theorem impl_symbolOf.calls (a0 : Int) (r : Int) (w : World) (h : impl_symbolOf.f a0 = some r) :
 Calls Try.prog 79 #[.int .i64 a0] w fun e w' => e = .returned (.int .i64 r) ∧ Drawn0 w w' := by
 have H : (some (wrap64 ((-1) - a0))) = some r := h; clear h; obtain rfl := Option.some.inj H; go_enter Try.func79, Try.ntmps79; go_wp2; go_ret; exact ⟨by first | rfl | (simp; done) | (simp [*]; done), by repeat (first | exact Drawn0.refl _ | apply Drawn0.step)⟩
mutual
def spec_l2Symbol.l0 : Nat → Int → Int → Int → Int → Option (Int × Bool)
 | 0, _, _, _, _ => none
 | k + 1, x0, x1, x2, x8 => if x8 < x0 then (if 0 ≤ x8 then (if x8 < 6 then (if (bt (⟨#[83, 65, 66, 67, 68, 69]⟩ : ByteArray) x8) = x2 then (some (x8, true)) else (spec_l2Symbol.l0 k x0 x1 x2 (wrap64 (x8 + 1)))) else (none)) else (none)) else (spec_l2Symbol.l1 k x1 x2 0)
def spec_l2Symbol.l1 : Nat → Int → Int → Int → Option (Int × Bool)
 | 0, _, _, _ => none
 | k + 1, x1, x2, x9 => if x9 < x1 then (if 0 ≤ x9 then (if x9 < 4 then (if (bt (⟨#[97, 98, 99, 100]⟩ : ByteArray) x9) = x2 then (some (wrap64 ((-1) - x9), true)) else (spec_l2Symbol.l1 k x1 x2 (wrap64 (x9 + 1)))) else (none)) else (none)) else (some (0, false))
end
def spec_l2Symbol.f (k : Nat) (a0 : Int) (a1 : Int) (a2 : Int) : Option (Int × Bool) := spec_l2Symbol.l0 k a0 a1 a2 0
set_option maxHeartbeats 8000000 in
set_option maxRecDepth 100000 in
theorem spec_l2Symbol.calls (k : Nat) (a0 : Int) (a1 : Int) (a2 : Int) (r1 : Int) (r2 : Bool) (w : World) (h : spec_l2Symbol.f k a0 a1 a2 = some (r1, r2)) :
 Calls Try.prog 52 #[.int .i64 a0, .int .i64 a1, .int .u8 a2] w fun e w' => e = .returned (.tuple #[.int .i64 r1, .bool r2]) ∧ Drawn0 w w' := by
 have H : (spec_l2Symbol.l0 k a0 a1 a2 0) = some (r1, r2) := h; clear h; have H' := zA H; clear H; go_enter Try.func52, Try.ntmps52; go_wp2; go_loopg [8] k (fun kq v8 w' => ∃ (x8_1 : Int), v8 = .int .i64 x8_1 ∧ Aside0 (spec_l2Symbol.l0 kq a0 a1 a2 x8_1 = some (r1, r2)) ∧ Aside0 (kq ≤ k) ∧ Drawn0 w w')
 case atStart => exact ⟨(0), (by first | rfl | (simp; done) | (simp [*]; done)), H', ⟨Nat.le_refl _⟩, by repeat (first | exact Drawn0.refl _ | apply Drawn0.step)⟩
 case round =>
  clear H'; (try clear p2); obtain ⟨x8_1, rfl, HA, HK1, ⟨m1, rfl⟩⟩ := hrel; cases gk with
  | zero => exact absurd HA.out (by simp [spec_l2Symbol.l0])
  | succ k1 =>
   have H := HA.out; clear HA; simp only [spec_l2Symbol.l0] at H; by_cases c4 : x8_1 < a0
   · rw [if_pos c4] at H; have c4b0 : decide (x8_1 < a0) = true := decide_eq_true c4; clear c4; by_cases c5 : 0 ≤ x8_1
     · rw [if_pos c5] at H; have c5b0 : decide (0 ≤ x8_1) = true := decide_eq_true c5; clear c5; by_cases c6 : x8_1 < 6
       · rw [if_pos c6] at H; have c6b0 : decide (x8_1 < 6) = true := decide_eq_true c6; clear c6; by_cases c8 : (bt (⟨#[83, 65, 66, 67, 68, 69]⟩ : ByteArray) x8_1) = a2
         · rw [if_pos c8] at H; have c8b0 : ((bt (⟨#[83, 65, 66, 67, 68, 69]⟩ : ByteArray) x8_1) == a2) = true := beq_iff_eq.mpr c8; have c8b1 : ((bt (⟨#[83, 65, 66, 67, 68, 69]⟩ : ByteArray) x8_1) != a2) = false := bne_eq_false_iff_eq.mpr c8; clear c8; simp only [Option.some.injEq, Prod.mk.injEq] at H; obtain ⟨rfl, rfl⟩ := H; have p7 : 0 ≤ (x8_1 : Int) := of_decide_eq_true (by assumption); have q7 : x8_1 < (6 : Int) := of_decide_eq_true (by assumption); have hx7 := bt_at (⟨#[83, 65, 66, 67, 68, 69]⟩ : ByteArray) x8_1; replace p7 := eq_true p7; replace q7 := eq_true q7; go_wp2
           go_ret2
           exact ⟨by first | rfl | (simp; done) | (simp [*]; done), by repeat (first | exact Drawn0.refl _ | apply Drawn0.step)⟩
         · rw [if_neg c8] at H; have c8b0 : ((bt (⟨#[83, 65, 66, 67, 68, 69]⟩ : ByteArray) x8_1) == a2) = false := beq_eq_false_iff_ne.mpr c8; have c8b1 : ((bt (⟨#[83, 65, 66, 67, 68, 69]⟩ : ByteArray) x8_1) != a2) = true := bne_iff_ne.mpr c8; have H' := zA H; clear H; have p7 : 0 ≤ (x8_1 : Int) := of_decide_eq_true (by assumption); have q7 : x8_1 < (6 : Int) := of_decide_eq_true (by assumption); have hx7 := bt_at (⟨#[83, 65, 66, 67, 68, 69]⟩ : ByteArray) x8_1; replace p7 := eq_true p7; replace q7 := eq_true q7; go_wp2
           go_roundg k1
           case measure => have := HK1.out; omega
           case rel => exact ⟨(wrap64 (x8_1 + 1)), (by first | rfl | (simp; done) | (simp [*]; done)), H', ⟨by have := HK1.out; omega⟩, by repeat (first | exact Drawn0.refl _ | apply Drawn0.step)⟩
       · rw [if_neg c6] at H; exact absurd H (by simp)
     · rw [if_neg c5] at H; exact absurd H (by simp)
   · rw [if_neg c4] at H; have c4b0 : decide (x8_1 < a0) = false := decide_eq_false c4; clear c4; have H' := zA H; clear H; go_wp2; go_loopg [9] k1 (fun kq v9 w' => ∃ (x9_2 : Int), v9 = .int .i64 x9_2 ∧ Aside0 (spec_l2Symbol.l1 kq a1 a2 x9_2 = some (r1, r2)) ∧ Aside0 (kq ≤ k1) ∧ Drawn0 w w')
     case atStart => exact ⟨(0), (by first | rfl | (simp; done) | (simp [*]; done)), H', ⟨Nat.le_refl _⟩, by repeat (first | exact Drawn0.refl _ | apply Drawn0.step)⟩
     case round =>
      clear H'; (try clear p2); (try clear c4); (try clear c4b0); (try clear c5); (try clear c5b0); (try clear c6); (try clear c6b0); (try clear p6); (try clear p7); (try clear q7); (try clear hx7); (try clear c8); (try clear c8b0); (try clear c8b1); (try clear p2); (try clear p7); (try clear q7); obtain ⟨x9_2, rfl, HA, HK2, ⟨m2, rfl⟩⟩ := hrel; cases gk with
      | zero => exact absurd HA.out (by simp [spec_l2Symbol.l1])
      | succ k2 =>
       have H := HA.out; clear HA; simp only [spec_l2Symbol.l1] at H; by_cases c9 : x9_2 < a1
       · rw [if_pos c9] at H; have c9b0 : decide (x9_2 < a1) = true := decide_eq_true c9; clear c9; by_cases c10 : 0 ≤ x9_2
         · rw [if_pos c10] at H; have c10b0 : decide (0 ≤ x9_2) = true := decide_eq_true c10; clear c10; by_cases c11 : x9_2 < 4
           · rw [if_pos c11] at H; have c11b0 : decide (x9_2 < 4) = true := decide_eq_true c11; clear c11; by_cases c13 : (bt (⟨#[97, 98, 99, 100]⟩ : ByteArray) x9_2) = a2
             · rw [if_pos c13] at H; have c13b0 : ((bt (⟨#[97, 98, 99, 100]⟩ : ByteArray) x9_2) == a2) = true := beq_iff_eq.mpr c13; have c13b1 : ((bt (⟨#[97, 98, 99, 100]⟩ : ByteArray) x9_2) != a2) = false := bne_eq_false_iff_eq.mpr c13; clear c13; simp only [Option.some.injEq, Prod.mk.injEq] at H; obtain ⟨rfl, rfl⟩ := H; have p12 : 0 ≤ (x9_2 : Int) := of_decide_eq_true (by assumption); have q12 : x9_2 < (4 : Int) := of_decide_eq_true (by assumption); have hx12 := bt_at (⟨#[97, 98, 99, 100]⟩ : ByteArray) x9_2; replace p12 := eq_true p12; replace q12 := eq_true q12; go_wp2
               go_ret2
               exact ⟨by first | rfl | (simp; done) | (simp [*]; done), by repeat (first | exact Drawn0.refl _ | apply Drawn0.step)⟩
             · rw [if_neg c13] at H; have c13b0 : ((bt (⟨#[97, 98, 99, 100]⟩ : ByteArray) x9_2) == a2) = false := beq_eq_false_iff_ne.mpr c13; have c13b1 : ((bt (⟨#[97, 98, 99, 100]⟩ : ByteArray) x9_2) != a2) = true := bne_iff_ne.mpr c13; have H' := zA H; clear H; have p12 : 0 ≤ (x9_2 : Int) := of_decide_eq_true (by assumption); have q12 : x9_2 < (4 : Int) := of_decide_eq_true (by assumption); have hx12 := bt_at (⟨#[97, 98, 99, 100]⟩ : ByteArray) x9_2; replace p12 := eq_true p12; replace q12 := eq_true q12; go_wp2
               go_roundg k2
               case measure => have := HK1.out; have := HK2.out; omega
               case rel => exact ⟨(wrap64 (x9_2 + 1)), (by first | rfl | (simp; done) | (simp [*]; done)), H', ⟨by have := HK1.out; have := HK2.out; omega⟩, by repeat (first | exact Drawn0.refl _ | apply Drawn0.step)⟩
           · rw [if_neg c11] at H; exact absurd H (by simp)
         · rw [if_neg c10] at H; exact absurd H (by simp)
       · rw [if_neg c9] at H; have c9b0 : decide (x9_2 < a1) = false := decide_eq_false c9; clear c9; simp only [Option.some.injEq, Prod.mk.injEq] at H; obtain ⟨rfl, rfl⟩ := H; go_wp2
         go_ret2
         exact ⟨by first | rfl | (simp; done) | (simp [*]; done), by repeat (first | exact Drawn0.refl _ | apply Drawn0.step)⟩
end Go.Proofs.Ytodacikpbcgndaa.P
namespace Go.Proofs.Ytodacikpbcgndaa.P
open Go.RowKit Go.Proofs.YtodacikpbcgndaaW.PrintWords Go.Proofs.YtodacikpbcgndaaW.PrintLast Go.Proofs.YtodacikpbcgndaaW.PrintMore
set_option linter.unusedVariables false
set_option linter.unusedSimpArgs false
def ltI (c : Int) : Int := if c = 83 then 0 else if c = 65 then 1 else if c = 66 then 2 else if c = 67 then 3 else if c = 68 then 4 else if c = 69 then 5 else -1
theorem ltI_all : ∀ i : Fin 256, Lib.indexByte [83, 65, 66, 67, 68, 69] (UInt8.ofNat i.val) = ltI (i.val : Int) := by decide +kernel
theorem ltI_byte (c : Int) (h0 : 0 ≤ c) (h1 : c ≤ 255) : Lib.indexByte [83, 65, 66, 67, 68, 69] c.toNat.toUInt8 = ltI c := by
 have h := ltI_all ⟨c.toNat, by omega⟩; rw [show ((⟨c.toNat, by omega⟩ : Fin 256).val : Int) = c by show ((c.toNat : Nat) : Int) = c; omega] at h; exact h
theorem ltI_range (c : Int) : -1 ≤ ltI c ∧ ltI c < 6 := by unfold ltI; repeat (split; omega); omega
def symX (n t c : Int) : Int × Bool := if 0 ≤ ltI c then (ltI c, decide (ltI c < n)) else (96 - c, decide (97 ≤ c ∧ c < 97 + t))
theorem symX_some {n t c : Int} (h : (symX n t c).2 = true) : symN n t c = some (symX n t c).1 := by
 unfold symX symN at *
 unfold ltN ltI at *
 by_cases c0 : c = 83
 · subst c0; simp at h ⊢; simp [h]
 by_cases c1 : c = 65
 · subst c1; simp at h ⊢; simp [h]
 by_cases c2 : c = 66
 · subst c2; simp at h ⊢; simp [h]
 by_cases c3 : c = 67
 · subst c3; simp at h ⊢; simp [h]
 by_cases c4 : c = 68
 · subst c4; simp at h ⊢; simp [h]
 by_cases c5 : c = 69
 · subst c5; simp at h ⊢; simp [h]
 simp [c0, c1, c2, c3, c4, c5] at h ⊢; exact h
theorem symX_none {n t c : Int} (h : (symX n t c).2 = false) : symN n t c = none := by
 unfold symX symN at *
 unfold ltN ltI at *
 by_cases c0 : c = 83
 · subst c0; simp at h; simp [show ¬ ((0 : Int) < n) by omega]
 by_cases c1 : c = 65
 · subst c1; simp at h; simp [show ¬ ((1 : Int) < n) by omega]
 by_cases c2 : c = 66
 · subst c2; simp at h; simp [show ¬ ((2 : Int) < n) by omega]
 by_cases c3 : c = 67
 · subst c3; simp at h; simp [show ¬ ((3 : Int) < n) by omega]
 by_cases c4 : c = 68
 · subst c4; simp at h; simp [show ¬ ((4 : Int) < n) by omega]
 by_cases c5 : c = 69
 · subst c5; simp at h; simp [show ¬ ((5 : Int) < n) by omega]
 simp [c0, c1, c2, c3, c4, c5] at h ⊢; exact h
theorem symX_lt {n t c : Int} (h : (symX n t c).2 = true) (h0 : 0 ≤ (symX n t c).1) (h97 : 97 ≤ c → c ≤ 255) : ltN n c = some (symX n t c).1 := by
 unfold symX at *
 unfold ltN ltI at *
 by_cases c0 : c = 83
 · subst c0; simp at h ⊢; simp [h]
 by_cases c1 : c = 65
 · subst c1; simp at h ⊢; simp [h]
 by_cases c2 : c = 66
 · subst c2; simp at h ⊢; simp [h]
 by_cases c3 : c = 67
 · subst c3; simp at h ⊢; simp [h]
 by_cases c4 : c = 68
 · subst c4; simp at h ⊢; simp [h]
 by_cases c5 : c = 69
 · subst c5; simp at h ⊢; simp [h]
 simp [c0, c1, c2, c3, c4, c5] at h h0 ⊢; omega
theorem symX_no {n t c : Int} (h : (symX n t c).2 = false ∨ (symX n t c).1 < 0) : ltN n c = none := by
 unfold symX at *
 unfold ltN ltI at *
 by_cases c0 : c = 83
 · subst c0; simp at h ⊢; omega
 by_cases c1 : c = 65
 · subst c1; simp at h ⊢; omega
 by_cases c2 : c = 66
 · subst c2; simp at h ⊢; omega
 by_cases c3 : c = 67
 · subst c3; simp at h ⊢; omega
 by_cases c4 : c = 68
 · subst c4; simp at h ⊢; omega
 by_cases c5 : c = 69
 · subst c5; simp at h ⊢; omega
 simp [c0, c1, c2, c3, c4, c5]
set_option maxHeartbeats 4000000 in
theorem symbolAt_calls (n t : Int) (vr : Value) (A : Option Addr) (m cp : Nat) (hvr : vr = .slice A m cp) (c : Int) (h0 : 0 ≤ c) (h1 : c ≤ 255) (hn : 1 ≤ n ∧ n ≤ 6) (ht : 1 ≤ t ∧ t ≤ 4) (w : World) :
 Calls Try.prog 54 #[.agg #[.int .i64 n, .int .i64 t, vr], .int .u8 c] w fun e w' => e = .returned (.tuple #[.int .i64 (symX n t c).1, .bool (symX n t c).2]) ∧ Below w.heap.size w w' := by
 subst hvr; have hu := Try.underlying30; have CI := fun (W : World) => (show Calls Try.prog 78 #[.string ⟨#[83, 65, 66, 67, 68, 69]⟩, .int .u8 c] W fun e w' => e = .returned (.int .i64 (ltI c)) ∧ w' = W from (Any.strings_IndexByte Try.idxb ⟨#[83, 65, 66, 67, 68, 69]⟩ c W).mono fun e w' ⟨he, hw⟩ => ⟨by rw [he, ← ltI_byte c h0 h1], hw⟩)
 have HB := zA (Below.refl w.heap.size w); have hr := ltI_range c; have SX := zA (show symX n t c = if 0 ≤ ltI c then (ltI c, decide (ltI c < n)) else (96 - c, decide (97 ≤ c ∧ c < 97 + t)) from rfl); generalize ltI c = k at CI hr SX; by_cases hk : 0 ≤ k
 · have dk : decide (0 ≤ k) = true := decide_eq_true hk; have SY := zA (show symX n t c = (k, decide (k < n)) by rw [SX.out, if_pos hk]); clear SX hk hr; go_enter Try.func54, Try.ntmps54
   go_upto_region 3 with (first | ((with_reducible refine gate_dst (N := 2) rfl ?_); refine box_event ?hg (N := 2) ?hd (cs := #[.int .i64 n, .int .i64 t, .slice A m cp]) (t := 30) ?hr ?_; (case hd => rfl); (case hg => rfl); (case hr => first | (go_simp; done) | (go_simp; rfl)); intro gb hg_ w1 hbox_ hb_; have GE_gb := zA (show w.heap.size ≤ gb by rw [hg_]; exact zF (by repeat (first | (with_reducible first | exact HB.out | apply zB | apply zC | apply zD) | exact HB.out))); have n0_ := zA (zG (by repeat (first | (with_reducible first | exact HB.out | apply zB | apply zC | apply zD) | exact HB.out)) hb_); clear HB; have HB := n0_; clear n0_; have B_gb := zA hbox_; clear hb_ hbox_ hg_; have x_gb_0 : w1.cell? ⟨gb, 0, none⟩ = some (.int .i64 n) := (zK B_gb.out 0).trans rfl; have x_gb_1 : w1.cell? ⟨gb, 1, none⟩ = some (.int .i64 t) := (zK B_gb.out 1).trans rfl; have x_gb_2 : w1.cell? ⟨gb, 2, none⟩ = some (.slice A m cp) := (zK B_gb.out 2).trans rfl) | (go_at_call 78; (with_reducible refine (CI _).mono ?_); rintro e w2 ⟨rfl, rfl⟩; clear CI))
   have ql0 := Later.cell x_gb_0; clear x_gb_0 x_gb_1 x_gb_2; refine wp_region_later (by kernel_rfl) (by kernel_rfl) ?_; (repeat (go_big_quiet_step (fail))); refine wpQuiet_nil ?_; intro w4_ hw4; obtain ⟨⟨w4, hb4⟩, hw4⟩ := hw4; subst hw4; (try dsimp only); have HB2 := zA (zG HB.out hb4); clear hb4 ql0; go_wp2
   go_ret2
   exact ⟨by rw [SY.out]; rfl, HB2.out⟩
 · have dk : decide (0 ≤ k) = false := decide_eq_false hk; have CS := fun (W : World) => impl_symbolOf.calls (c - 97) (96 - c) W (by unfold impl_symbolOf.f; congr 1; unfold wrap64; omega)
   have CY := fun (W : World) => impl_isSymbol.calls (96 - c) 0 t (decide (97 ≤ c ∧ c < 97 + t)) W (by unfold impl_isSymbol.f; rw [impl_in_eq]; simp only [Option.bind_some]; congr 1; rw [show wrap64 (-t) = -t by unfold wrap64; omega, show wrap64 (0 - 1) = -1 by unfold wrap64; omega]; apply decide_eq_decide.2; omega)
   have SY := zA (show symX n t c = (96 - c, decide (97 ≤ c ∧ c < 97 + t)) by rw [SX.out, if_neg hk]); have e1 : wrap64 c = c := by unfold wrap64; omega
   have e2 : wrap64 (c - 97) = c - 97 := by unfold wrap64; omega
   generalize decide (97 ≤ c ∧ c < 97 + t) = b at CY SY; clear SX hk hr; go_enter Try.func54, Try.ntmps54; go_wp2_with (first | ((with_reducible refine gate_dst (N := 2) rfl ?_); refine box_event ?hg (N := 2) ?hd (cs := #[.int .i64 n, .int .i64 t, .slice A m cp]) (t := 30) ?hr ?_; (case hd => rfl); (case hg => rfl); (case hr => first | (go_simp; done) | (go_simp; rfl)); intro gb hg_ w1 hbox_ hb_; have GE_gb := zA (show w.heap.size ≤ gb by rw [hg_]; exact zF (by repeat (first | (with_reducible first | exact HB.out | apply zB | apply zC | apply zD) | exact HB.out))); have n0_ := zA (zG (by repeat (first | (with_reducible first | exact HB.out | apply zB | apply zC | apply zD) | exact HB.out)) hb_); clear HB; have HB := n0_; clear n0_; have B_gb := zA hbox_; clear hb_ hbox_ hg_; have x_gb_0 : w1.cell? ⟨gb, 0, none⟩ = some (.int .i64 n) := (zK B_gb.out 0).trans rfl; have x_gb_1 : w1.cell? ⟨gb, 1, none⟩ = some (.int .i64 t) := (zK B_gb.out 1).trans rfl; have x_gb_2 : w1.cell? ⟨gb, 2, none⟩ = some (.slice A m cp) := (zK B_gb.out 2).trans rfl) | (go_at_call 78; (with_reducible refine (CI _).mono ?_); rintro e w2 ⟨rfl, rfl⟩; clear CI) | (go_at_call 79; (try rw [e1]); (try rw [e2]); (with_reducible refine (CS _).mono ?_); rintro e w3 ⟨rfl, hd_⟩; have n0_ := zA (zG HB.out (drawn_below hd_)); have n_gb := zA (zM B_gb.out (drawn_below hd_)); clear HB B_gb x_gb_0 x_gb_1 x_gb_2 hd_ CS; have HB := n0_; have B_gb := n_gb; clear n0_ n_gb; have x_gb_1 : w3.cell? ⟨gb, 1, none⟩ = some (.int .i64 t) := (zK B_gb.out 1).trans rfl) | (go_at_call 67; (with_reducible refine (CY _).mono ?_); rintro e w4 ⟨rfl, hd_⟩; have n0_ := zA (zG HB.out (drawn_below hd_)); clear HB hd_ CY; have HB := n0_; clear n0_))
   go_ret2
   exact ⟨by rw [SY.out]; rfl, HB.out⟩
theorem l2Sym_all : ∀ (n : Fin 6) (t : Fin 5) (c : Fin 256), spec_l2Symbol.f 20 ((n.val : Int) + 1) (t.val : Int) (c.val : Int) = some (match symN ((n.val : Int) + 1) (t.val : Int) (c.val : Int) with | some x => (x, true) | none => (0, false)) := by decide +kernel
theorem l2Sym_eq {n t c : Int} (hn : 1 ≤ n ∧ n ≤ 6) (ht : 0 ≤ t ∧ t ≤ 4) (h0 : 0 ≤ c) (h1 : c ≤ 255) : spec_l2Symbol.f 20 n t c = some (match symN n t c with | some x => (x, true) | none => (0, false)) := by
 have h := l2Sym_all ⟨(n - 1).toNat, by omega⟩ ⟨t.toNat, by omega⟩ ⟨c.toNat, by omega⟩; rw [show ((⟨(n - 1).toNat, by omega⟩ : Fin 6).val : Int) + 1 = n by show (((n - 1).toNat : Nat) : Int) + 1 = n; omega, show ((⟨t.toNat, by omega⟩ : Fin 5).val : Int) = t by show ((t.toNat : Nat) : Int) = t; omega, show ((⟨c.toNat, by omega⟩ : Fin 256).val : Int) = c by show ((c.toNat : Nat) : Int) = c; omega] at h; exact h
theorem symN_zero (n c : Int) : symN n 0 c = ltN n c := by
 unfold symN; cases ltN n c with
 | some k => rfl
 | none => simp
structure Rs (v : World) (g : Nat) (s : ByteArray) (q code n t : Int) (A : Option Addr) (c : Nat) (rs : List S56) (W : World) : Prop where
 below : Below v.heap.size v W
 box : W.heap[g]? = some (.cells #[.string s, .int .i64 q, .int .i64 code, .int .i64 n, .int .i64 t, .slice A rs.length c] 46 (0, 0))
 own : Kd.S k56 56 W v.heap.size (fun k => k ≠ g) (.slice A rs.length c) rs
 ge : v.heap.size ≤ g
section
variable {v w W V : World} {g : Nat} {s : ByteArray} {q code n t : Int} {A : Option Addr} {c : Nat} {rs : List S56}
theorem Rs.go (h : Rs v g s q code n t A c rs W) (k : Below W.heap.size W V) : Rs v g s q code n t A c rs V := ⟨zG h.below k, zM h.box k, Kd.S_below h.own k, h.ge⟩
theorem Rs.drew (h : Rs v g s q code n t A c rs W) : Rs v g s q code n t A c rs W.drew := h.go (below_drew (Below.refl _ _))
theorem Rs.drewN (h : Rs v g s q code n t A c rs W) (m : Nat) : Rs v g s q code n t A c rs (W.drewN m) := h.go (zC (Below.refl _ _) m)
theorem Rs.set1 (h : Rs v g s q code n t A c rs W) (x : Int) : Rs v g s x code n t A c rs (W.setCell ⟨g, 1, none⟩ (.int .i64 x)) := ⟨zE h.below h.ge, zO h.box 1 _ rfl, Kd.S_far h.own (fun k hk => hk) _, h.ge⟩
theorem Rs.set2 (h : Rs v g s q code n t A c rs W) (x : Int) : Rs v g s q x n t A c rs (W.setCell ⟨g, 2, none⟩ (.int .i64 x)) := ⟨zE h.below h.ge, zO h.box 2 _ rfl, Kd.S_far h.own (fun k hk => hk) _, h.ge⟩
theorem Rs.set3 (h : Rs v g s q code n t A c rs W) (x : Int) : Rs v g s q code x t A c rs (W.setCell ⟨g, 3, none⟩ (.int .i64 x)) := ⟨zE h.below h.ge, zO h.box 3 _ rfl, Kd.S_far h.own (fun k hk => hk) _, h.ge⟩
theorem Rs.set4 (h : Rs v g s q code n t A c rs W) (x : Int) : Rs v g s q code n x A c rs (W.setCell ⟨g, 4, none⟩ (.int .i64 x)) := ⟨zE h.below h.ge, zO h.box 4 _ rfl, Kd.S_far h.own (fun k hk => hk) _, h.ge⟩
theorem Rs.set5 (h : Rs v g s q code n t none 0 [] W) (x : Value) (hx : x = .slice none 0 0) : Rs v g s q code n t none 0 [] (W.setCell ⟨g, 5, none⟩ x) := ⟨zE h.below h.ge, by subst hx; exact zO h.box 5 _ rfl, Kd.S_far h.own (fun k hk => hk) _, h.ge⟩
end
def isB (s : ByteArray) (q b : Int) : Bool := decide (q < s.size ∧ bt s q = b)
set_option maxHeartbeats 4000000 in
set_option maxRecDepth 100000 in
theorem fault_calls (v : World) (g : Nat) (s : ByteArray) (q code n t : Int) (A : Option Addr) (c : Nat) (rs : List S56) (cd pl : Int) (w : World) (h : Rs v g s q code n t A c rs w) :
 Calls Try.prog 51 #[.pointer (some ⟨g, 0, none⟩), .int .i64 cd, .int .i64 pl] w fun e w' => e = .returned (.bool false) ∧ Rs v g s pl cd n t A c rs w' ∧ KeepBut w w' g none := by
 have SP := zA h; have HK := zA (KeepBut.refl w g none); clear h; have x1 : w.cell? ⟨g, 1, none⟩ = some (.int .i64 q) := (zK SP.out.box 1).trans rfl; have x2 : w.cell? ⟨g, 2, none⟩ = some (.int .i64 code) := (zK SP.out.box 2).trans rfl; have f1 := zL SP.out.box 1; have f2 := zL SP.out.box 2; go_enter Try.func51, Try.ntmps51; go_wp2; go_ret; exact ⟨rfl, by repeat (first | exact SP.out | apply Rs.set1 | apply Rs.set2 | apply Rs.drewN | apply Rs.drew), by repeat (first | exact HK.out | apply KeepBut.set_ | apply keepN | apply keepD)⟩
set_option maxHeartbeats 4000000 in
set_option maxRecDepth 100000 in
theorem is_calls (v : World) (g : Nat) (s : ByteArray) (q code n t : Int) (A : Option Addr) (c : Nat) (rs : List S56) (b : Int) (w : World) (h : Rs v g s q code n t A c rs w) (h0 : 0 ≤ q) (h1 : q ≤ s.size) (hs : s.size ≤ 600) :
 Calls Try.prog 50 #[.pointer (some ⟨g, 0, none⟩), .int .u8 b] w fun e w' => e = .returned (.bool (isB s q b)) ∧ Rs v g s (if isB s q b = true then q + 1 else q) code n t A c rs w' ∧ KeepBut w w' g none := by
 have SP := zA h; have HK := zA (KeepBut.refl w g none); clear h; have x0 : w.cell? ⟨g, 0, none⟩ = some (.string s) := (zK SP.out.box 0).trans rfl; have x1 : w.cell? ⟨g, 1, none⟩ = some (.int .i64 q) := (zK SP.out.box 1).trans rfl; have f0 := zL SP.out.box 0; have f1 := zL SP.out.box 1; by_cases c3 : q = (s.size : Int)
 · have e1 : (q == (s.size : Int)) = true := beq_iff_eq.mpr c3; have e2 : (q != (s.size : Int)) = false := bne_eq_false_iff_eq.mpr c3; have EB := zA (show isB s q b = false by unfold isB; exact decide_eq_false (by omega)); rw [EB.out]; clear c3; go_enter Try.func50, Try.ntmps50; go_wp2; (repeat (go_quiet (fail); try go_wp2)); go_ret; exact ⟨rfl, by (try rw [if_neg Bool.false_ne_true]); repeat (first | exact SP.out | apply Rs.set1 | apply Rs.set2 | apply Rs.drewN | apply Rs.drew), by repeat (first | exact HK.out | apply KeepBut.set_ | apply keepN | apply keepD)⟩
 · have e1 : (q == (s.size : Int)) = false := beq_eq_false_iff_ne.mpr c3; have e2 : (q != (s.size : Int)) = true := bne_iff_ne.mpr c3; have p7 : 0 ≤ q := h0; have q7 : q < (s.size : Int) := by omega
   have hx7 := bt_at s q; have d0 : decide (0 ≤ q) = true := decide_eq_true p7; have d1 : decide (q < (s.size : Int)) = true := decide_eq_true q7; have e3 : wrap64 (q + 1) = q + 1 := by unfold wrap64; omega
   by_cases c8 : bt s q = b
   · have EB := zA (show isB s q b = true by unfold isB; exact decide_eq_true ⟨q7, c8⟩); have c8b0 : ((bt s q) == b) = true := beq_iff_eq.mpr c8; have c8b1 : ((bt s q) != b) = false := bne_eq_false_iff_eq.mpr c8; rw [EB.out]; clear c8 c3; replace p7 := eq_true p7; replace q7 := eq_true q7; go_enter Try.func50, Try.ntmps50; go_wp2; (repeat (go_quiet (fail); try go_wp2)); go_ret; exact ⟨rfl, by (try rw [e3]); (try rw [if_pos rfl]); repeat (first | exact SP.out | apply Rs.set1 | apply Rs.set2 | apply Rs.drewN | apply Rs.drew), by repeat (first | exact HK.out | apply KeepBut.set_ | apply keepN | apply keepD)⟩
   · have EB := zA (show isB s q b = false by unfold isB; exact decide_eq_false (fun h => c8 h.2)); have c8b0 : ((bt s q) == b) = false := beq_eq_false_iff_ne.mpr c8; have c8b1 : ((bt s q) != b) = true := bne_iff_ne.mpr c8; rw [EB.out]; clear c8 c3; replace p7 := eq_true p7; replace q7 := eq_true q7; go_enter Try.func50, Try.ntmps50; go_wp2; (repeat (go_quiet (fail); try go_wp2)); go_ret; exact ⟨rfl, by (try rw [if_neg Bool.false_ne_true]); repeat (first | exact SP.out | apply Rs.set1 | apply Rs.set2 | apply Rs.drewN | apply Rs.drew), by repeat (first | exact HK.out | apply KeepBut.set_ | apply keepN | apply keepD)⟩
def dgB (s : ByteArray) (q most : Int) : Bool := decide (q < s.size ∧ 49 ≤ bt s q ∧ bt s q ≤ 48 + most)
set_option maxHeartbeats 4000000 in
set_option maxRecDepth 100000 in
theorem digit_calls (v : World) (g : Nat) (s : ByteArray) (q code n t : Int) (A : Option Addr) (c : Nat) (rs : List S56) (most : Int) (w : World) (h : Rs v g s q code n t A c rs w) (h0 : 0 ≤ q) (h1 : q ≤ s.size) (hs : s.size ≤ 600) (hm : 0 ≤ most ∧ most ≤ 9) :
 Calls Try.prog 49 #[.pointer (some ⟨g, 0, none⟩), .int .i64 most] w fun e w' => e = .returned (.int .i64 (if dgB s q most = true then bt s q - 48 else 0)) ∧ Rs v g s (if dgB s q most = true then q + 1 else q) code n t A c rs w' ∧ KeepBut w w' g none := by
 have SP := zA h; have HK := zA (KeepBut.refl w g none); clear h; have x0 : w.cell? ⟨g, 0, none⟩ = some (.string s) := (zK SP.out.box 0).trans rfl; have x1 : w.cell? ⟨g, 1, none⟩ = some (.int .i64 q) := (zK SP.out.box 1).trans rfl; have f0 := zL SP.out.box 0; have f1 := zL SP.out.box 1; by_cases c3 : q = (s.size : Int)
 · have e1 : (q == (s.size : Int)) = true := beq_iff_eq.mpr c3; have e2 : (q != (s.size : Int)) = false := bne_eq_false_iff_eq.mpr c3; have EB := zA (show dgB s q most = false by unfold dgB; exact decide_eq_false (by omega)); rw [EB.out]; clear c3; go_enter Try.func49, Try.ntmps49; go_wp2; (repeat (go_quiet (fail); try go_wp2)); go_ret; exact ⟨by (try rw [if_neg Bool.false_ne_true]); rfl, by (try rw [if_neg Bool.false_ne_true]); repeat (first | exact SP.out | apply Rs.set1 | apply Rs.set2 | apply Rs.drewN | apply Rs.drew), by repeat (first | exact HK.out | apply KeepBut.set_ | apply keepN | apply keepD)⟩
 · have e1 : (q == (s.size : Int)) = false := beq_eq_false_iff_ne.mpr c3; have e2 : (q != (s.size : Int)) = true := bne_iff_ne.mpr c3; have p7 : 0 ≤ q := h0; have q7 : q < (s.size : Int) := by omega
   have hx7 := bt_at s q; have hr := bt_range s q; have d0 : decide (0 ≤ q) = true := decide_eq_true p7; have d1 : decide (q < (s.size : Int)) = true := decide_eq_true q7; have e3 : wrap64 (q + 1) = q + 1 := by unfold wrap64; omega
   have e4 : wrap64 (bt s q) = bt s q := by unfold wrap64; omega
   have e5 : wrap64 (48 + most) = 48 + most := by unfold wrap64; omega
   have e6 : wrap64 (q + 1 - 1) = q := by unfold wrap64; omega
   have e7 : wrap64 (bt s q - 48) = bt s q - 48 := by unfold wrap64; omega
   have DG := zA (show dgB s q most = decide (49 ≤ bt s q ∧ bt s q ≤ 48 + most) by unfold dgB; exact decide_eq_decide.2 ⟨fun h => h.2, fun h => ⟨q7, h⟩⟩); have CI := fun (W : World) => spec_l1In.calls (bt s q) 49 (48 + most) (dgB s q most) W (by rw [DG.out]; unfold spec_l1In.f; by_cases c1 : bt s q ≥ 49 <;> by_cases c2 : bt s q ≤ 48 + most <;> simp [c1, c2])
   have CJ := fun (W : World) => (show Calls Try.prog 28 #[.int .i64 (wrap64 (bt s q)), .int .i64 49, .int .i64 (wrap64 (48 + most))] W fun e w' => e = .returned (.bool (dgB s q most)) ∧ Drawn0 W w' by rw [e4, e5]; exact CI W)
   clear DG c3; replace p7 := eq_true p7; replace q7 := eq_true q7; cases hb : dgB s q most with
   | true =>
    rw [hb] at CI CJ; clear hb; go_enter Try.func49, Try.ntmps49; go_wp2_with (first | (go_at_call 28; (first | (with_reducible refine (CI _).mono ?_) | (with_reducible refine (CJ _).mono ?_)); rintro e w' ⟨rfl, ⟨nd, rfl⟩⟩; (try first | exact ⟨rfl, _, World.drewN_drewN _ _ _⟩ | exact ⟨rfl, _, Eq.trans (World.drewN_drewN _ _ _) (congrArg (World.drewN _) (Nat.add_assoc _ _ _))⟩))); (repeat (go_quiet (first | (go_at_call 28; (first | (with_reducible refine (CI _).mono ?_) | (with_reducible refine (CJ _).mono ?_)); rintro e w' ⟨rfl, ⟨nd, rfl⟩⟩; (try first | exact ⟨rfl, _, World.drewN_drewN _ _ _⟩ | exact ⟨rfl, _, Eq.trans (World.drewN_drewN _ _ _) (congrArg (World.drewN _) (Nat.add_assoc _ _ _))⟩))); try go_wp2_with (first | (go_at_call 28; (first | (with_reducible refine (CI _).mono ?_) | (with_reducible refine (CJ _).mono ?_)); rintro e w' ⟨rfl, ⟨nd, rfl⟩⟩; (try first | exact ⟨rfl, _, World.drewN_drewN _ _ _⟩ | exact ⟨rfl, _, Eq.trans (World.drewN_drewN _ _ _) (congrArg (World.drewN _) (Nat.add_assoc _ _ _))⟩))))); go_ret; exact ⟨by (try rw [if_pos rfl]); first | rfl | (simp; done), by (try rw [e3]); (try rw [if_pos rfl]); repeat (first | exact SP.out | apply Rs.set1 | apply Rs.set2 | apply Rs.drewN | apply Rs.drew), by repeat (first | exact HK.out | apply KeepBut.set_ | apply keepN | apply keepD)⟩
   | false =>
    rw [hb] at CI CJ; clear hb; go_enter Try.func49, Try.ntmps49; go_wp2_with (first | (go_at_call 28; (first | (with_reducible refine (CI _).mono ?_) | (with_reducible refine (CJ _).mono ?_)); rintro e w' ⟨rfl, ⟨nd, rfl⟩⟩; (try first | exact ⟨rfl, _, World.drewN_drewN _ _ _⟩ | exact ⟨rfl, _, Eq.trans (World.drewN_drewN _ _ _) (congrArg (World.drewN _) (Nat.add_assoc _ _ _))⟩))); (repeat (go_quiet (first | (go_at_call 28; (first | (with_reducible refine (CI _).mono ?_) | (with_reducible refine (CJ _).mono ?_)); rintro e w' ⟨rfl, ⟨nd, rfl⟩⟩; (try first | exact ⟨rfl, _, World.drewN_drewN _ _ _⟩ | exact ⟨rfl, _, Eq.trans (World.drewN_drewN _ _ _) (congrArg (World.drewN _) (Nat.add_assoc _ _ _))⟩))); try go_wp2_with (first | (go_at_call 28; (first | (with_reducible refine (CI _).mono ?_) | (with_reducible refine (CJ _).mono ?_)); rintro e w' ⟨rfl, ⟨nd, rfl⟩⟩; (try first | exact ⟨rfl, _, World.drewN_drewN _ _ _⟩ | exact ⟨rfl, _, Eq.trans (World.drewN_drewN _ _ _) (congrArg (World.drewN _) (Nat.add_assoc _ _ _))⟩))))); go_ret; exact ⟨by (try rw [if_neg Bool.false_ne_true]); rfl, by (try rw [if_neg Bool.false_ne_true]); repeat (first | exact SP.out | apply Rs.set1 | apply Rs.set2 | apply Rs.drewN | apply Rs.drew), by repeat (first | exact HK.out | apply KeepBut.set_ | apply keepN | apply keepD)⟩
theorem is_yes (v : World) (g : Nat) (s : ByteArray) (q code n t : Int) (A : Option Addr) (c : Nat) (rs : List S56) (b : Int) (hb : isB s q b = true) (w : World) (h : Rs v g s q code n t A c rs w) (h0 : 0 ≤ q) (h1 : q ≤ s.size) (hs : s.size ≤ 600) :
 Calls Try.prog 50 #[.pointer (some ⟨g, 0, none⟩), .int .u8 b] w fun e w' => e = .returned (.bool true) ∧ Rs v g s (q + 1) code n t A c rs w' ∧ KeepBut w w' g none := by
 have h_ := is_calls v g s q code n t A c rs b w h h0 h1 hs; rw [hb] at h_; exact h_
theorem is_no (v : World) (g : Nat) (s : ByteArray) (q code n t : Int) (A : Option Addr) (c : Nat) (rs : List S56) (b : Int) (hb : isB s q b = false) (w : World) (h : Rs v g s q code n t A c rs w) (h0 : 0 ≤ q) (h1 : q ≤ s.size) (hs : s.size ≤ 600) :
 Calls Try.prog 50 #[.pointer (some ⟨g, 0, none⟩), .int .u8 b] w fun e w' => e = .returned (.bool false) ∧ Rs v g s q code n t A c rs w' ∧ KeepBut w w' g none := by
 have h_ := is_calls v g s q code n t A c rs b w h h0 h1 hs; rw [hb] at h_; exact h_
theorem digit_yes (v : World) (g : Nat) (s : ByteArray) (q code n t : Int) (A : Option Addr) (c : Nat) (rs : List S56) (most : Int) (hb : dgB s q most = true) (w : World) (h : Rs v g s q code n t A c rs w) (h0 : 0 ≤ q) (h1 : q ≤ s.size) (hs : s.size ≤ 600) (hm : 0 ≤ most ∧ most ≤ 9) :
 Calls Try.prog 49 #[.pointer (some ⟨g, 0, none⟩), .int .i64 most] w fun e w' => e = .returned (.int .i64 (bt s q - 48)) ∧ Rs v g s (q + 1) code n t A c rs w' ∧ KeepBut w w' g none := by
 have h_ := digit_calls v g s q code n t A c rs most w h h0 h1 hs hm; rw [hb] at h_; exact h_
theorem digit_no (v : World) (g : Nat) (s : ByteArray) (q code n t : Int) (A : Option Addr) (c : Nat) (rs : List S56) (most : Int) (hb : dgB s q most = false) (w : World) (h : Rs v g s q code n t A c rs w) (h0 : 0 ≤ q) (h1 : q ≤ s.size) (hs : s.size ≤ 600) (hm : 0 ≤ most ∧ most ≤ 9) :
 Calls Try.prog 49 #[.pointer (some ⟨g, 0, none⟩), .int .i64 most] w fun e w' => e = .returned (.int .i64 0) ∧ Rs v g s q code n t A c rs w' ∧ KeepBut w w' g none := by
 have h_ := digit_calls v g s q code n t A c rs most w h h0 h1 hs hm; rw [hb] at h_; exact h_
theorem keep_trans {w w1 w2 : World} {g : Nat} (h : KeepBut w w1 g none) (k : KeepBut w1 w2 g none) : KeepBut w w2 g none := h.trans k (.inl rfl)
theorem ifc {p q : Prop} [Decidable p] [Decidable q] {a b c d : Nat} (h : p ↔ q) (h1 : a = c) (h2 : b = d) : (if p then a else b) = (if q then c else d) := by
 by_cases hp : p
 · rw [if_pos hp, if_pos (h.1 hp)]; exact h1
 · rw [if_neg hp, if_neg (fun hq => hp (h.2 hq))]; exact h2
theorem headF_eq (s : ByteArray) : headF s = if dgB s 0 6 = true then (if isB s 1 32 = true then (if dgB s 2 4 = true then (if isB s 3 10 = true then 4 else 3) else 2) else 1) else 0 := by
 unfold headF dgB isB; simp only [decide_eq_true_eq]; exact ifc (by omega) (ifc (by omega) (ifc (by omega) (ifc (by omega) rfl rfl) rfl) rfl) rfl
def HeadS (v : World) (g : Nat) (s : ByteArray) (w' : World) : Prop :=
 if headF s = 4 then Rs v g s 4 0 (bt s 0 - 48) (bt s 2 - 48) none 0 [] w' else Rs v g s (headF s) 2 0 0 none 0 [] w'
set_option maxHeartbeats 8000000 in
set_option maxRecDepth 100000 in
theorem head_calls (v : World) (g : Nat) (s : ByteArray) (w : World) (h : Rs v g s 0 0 0 0 none 0 [] w) (hs : s.size ≤ 600) :
 Calls Try.prog 22 #[.pointer (some ⟨g, 0, none⟩)] w fun e w' => e = .returned (.bool (decide (headF s = 4))) ∧ HeadS v g s w' ∧ KeepBut w w' g none := by
 have SP := zA h; have HK := zA (KeepBut.refl w g none); have HE := zA (headF_eq s); unfold HeadS; clear h; have hz : 0 ≤ s.size := Nat.zero_le _; have fb0 : dgB s 0 6 = true → 1 ≤ s.size ∧ 1 ≤ bt s 0 - 48 := fun h => by unfold dgB at h; have := of_decide_eq_true h; omega
 have fb1 : isB s 1 32 = true → 2 ≤ s.size := fun h => by unfold isB at h; have := of_decide_eq_true h; omega
 have fb2 : dgB s 2 4 = true → 3 ≤ s.size ∧ 1 ≤ bt s 2 - 48 := fun h => by unfold dgB at h; have := of_decide_eq_true h; omega
 have fb3 : isB s 3 10 = true → 4 ≤ s.size := fun h => by unfold isB at h; have := of_decide_eq_true h; omega
 cases b0 : dgB s 0 6 with
 | false =>
  have EH : headF s = 0 := by rw [HE.out]; simp only [b0, Bool.false_eq_true, if_false]; try rfl
  rw [EH]; clear EH; show Calls Try.prog 22 #[.pointer (some ⟨g, 0, none⟩)] w fun e w' => e = .returned (.bool false) ∧ Rs v g s 0 2 0 0 none 0 [] w' ∧ KeepBut w w' g none
  go_enter Try.func22, Try.ntmps22
  go_upto_region 2 with (first | (go_at_call 49; (with_reducible refine (digit_no v g s 0 0 0 0 none 0 [] 6 b0 _ SP.out (by omega) (by omega) hs (by omega)).mono ?_); rintro e w1 ⟨rfl, hR_, hK_⟩; have SPn := zA hR_; have HKn := zA (keep_trans HK.out hK_); clear SP HK hR_ hK_; have SP := SPn; have HK := HKn; clear SPn HKn))
  clear fb0 fb1 fb2 fb3; have x1 : w1.cell? ⟨g, 1, none⟩ = some (.int .i64 0) := (zK SP.out.box 1).trans rfl; go_wp2_with (first | (go_at_call 51; (with_reducible refine (fault_calls v g s 0 0 0 0 none 0 [] 2 0 _ SP.out).mono ?_); rintro e wf ⟨rfl, hR_, hK_⟩; have SPn := zA hR_; have HKn := zA (keep_trans HK.out hK_); clear SP HK hR_ hK_; have SP := SPn; have HK := HKn; clear SPn HKn; (try clear x1))); go_ret; exact ⟨rfl, SP.out, HK.out⟩
 | true =>
  obtain ⟨z0, n0⟩ := fb0 b0; have ne0 : (bt s 0 - 48 == 0) = false := beq_eq_false_iff_ne.2 (by omega); have nd0 : decide (bt s 0 - 48 = 0) = false := decide_eq_false (by omega); cases b1 : isB s 1 32 with
  | false =>
   have EH : headF s = 1 := by rw [HE.out]; simp only [b0, b1, Bool.false_eq_true, if_false, if_true]; try rfl
   rw [EH]; clear EH; show Calls Try.prog 22 #[.pointer (some ⟨g, 0, none⟩)] w fun e w' => e = .returned (.bool false) ∧ Rs v g s 1 2 0 0 none 0 [] w' ∧ KeepBut w w' g none
   go_enter Try.func22, Try.ntmps22
   go_upto_region 2 with (first | (go_at_call 49; (with_reducible refine (digit_yes v g s 0 0 0 0 none 0 [] 6 b0 _ SP.out (by omega) (by omega) hs (by omega)).mono ?_); rintro e w1 ⟨rfl, hR_, hK_⟩; have SPn := zA (show Rs v g s 1 0 0 0 none 0 [] w1 from hR_); have HKn := zA (keep_trans HK.out hK_); clear SP HK hR_ hK_; have SP := SPn; have HK := HKn; clear SPn HKn))
   go_upto_region 3 with (first | (go_at_call 50; (with_reducible refine (is_no v g s 1 0 0 0 none 0 [] 32 b1 _ SP.out (by omega) (by omega) hs).mono ?_); rintro e w2 ⟨rfl, hR_, hK_⟩; have SPn := zA hR_; have HKn := zA (keep_trans HK.out hK_); clear SP HK hR_ hK_; have SP := SPn; have HK := HKn; clear SPn HKn))
   clear fb0 fb1 fb2 fb3; have x1 : w2.cell? ⟨g, 1, none⟩ = some (.int .i64 1) := (zK SP.out.box 1).trans rfl; go_wp2_with (first | (go_at_call 51; (with_reducible refine (fault_calls v g s 1 0 0 0 none 0 [] 2 1 _ SP.out).mono ?_); rintro e wf ⟨rfl, hR_, hK_⟩; have SPn := zA hR_; have HKn := zA (keep_trans HK.out hK_); clear SP HK hR_ hK_; have SP := SPn; have HK := HKn; clear SPn HKn; (try clear x1))); go_ret; exact ⟨rfl, SP.out, HK.out⟩
  | true =>
   have z1 := fb1 b1; cases b2 : dgB s 2 4 with
   | false =>
    have EH : headF s = 2 := by rw [HE.out]; simp only [b0, b1, b2, Bool.false_eq_true, if_false, if_true]; try rfl
    rw [EH]; clear EH; show Calls Try.prog 22 #[.pointer (some ⟨g, 0, none⟩)] w fun e w' => e = .returned (.bool false) ∧ Rs v g s 2 2 0 0 none 0 [] w' ∧ KeepBut w w' g none
    go_enter Try.func22, Try.ntmps22
    go_upto_region 2 with (first | (go_at_call 49; (with_reducible refine (digit_yes v g s 0 0 0 0 none 0 [] 6 b0 _ SP.out (by omega) (by omega) hs (by omega)).mono ?_); rintro e w1 ⟨rfl, hR_, hK_⟩; have SPn := zA (show Rs v g s 1 0 0 0 none 0 [] w1 from hR_); have HKn := zA (keep_trans HK.out hK_); clear SP HK hR_ hK_; have SP := SPn; have HK := HKn; clear SPn HKn))
    go_upto_region 4 with (first | (go_at_call 50; (with_reducible refine (is_yes v g s 1 0 0 0 none 0 [] 32 b1 _ SP.out (by omega) (by omega) hs).mono ?_); rintro e w2 ⟨rfl, hR_, hK_⟩; have SPn := zA (show Rs v g s 2 0 0 0 none 0 [] w2 from hR_); have HKn := zA (keep_trans HK.out hK_); clear SP HK hR_ hK_; have SP := SPn; have HK := HKn; clear SPn HKn))
    go_upto_region 5 with (first | (go_at_call 49; (with_reducible refine (digit_no v g s 2 0 0 0 none 0 [] 4 b2 _ SP.out (by omega) (by omega) hs (by omega)).mono ?_); rintro e w3 ⟨rfl, hR_, hK_⟩; have SPn := zA hR_; have HKn := zA (keep_trans HK.out hK_); clear SP HK hR_ hK_; have SP := SPn; have HK := HKn; clear SPn HKn))
    clear fb0 fb1 fb2 fb3; have x1 : w3.cell? ⟨g, 1, none⟩ = some (.int .i64 2) := (zK SP.out.box 1).trans rfl; go_wp2_with (first | (go_at_call 51; (with_reducible refine (fault_calls v g s 2 0 0 0 none 0 [] 2 2 _ SP.out).mono ?_); rintro e wf ⟨rfl, hR_, hK_⟩; have SPn := zA hR_; have HKn := zA (keep_trans HK.out hK_); clear SP HK hR_ hK_; have SP := SPn; have HK := HKn; clear SPn HKn; (try clear x1))); go_ret; exact ⟨rfl, SP.out, HK.out⟩
   | true =>
    obtain ⟨z2, n2⟩ := fb2 b2; have ne2 : (bt s 2 - 48 == 0) = false := beq_eq_false_iff_ne.2 (by omega); have nd2 : decide (bt s 2 - 48 = 0) = false := decide_eq_false (by omega); cases b3 : isB s 3 10 with
    | false =>
     have EH : headF s = 3 := by rw [HE.out]; simp only [b0, b1, b2, b3, Bool.false_eq_true, if_false, if_true]; try rfl
     rw [EH]; clear EH; show Calls Try.prog 22 #[.pointer (some ⟨g, 0, none⟩)] w fun e w' => e = .returned (.bool false) ∧ Rs v g s 3 2 0 0 none 0 [] w' ∧ KeepBut w w' g none
     go_enter Try.func22, Try.ntmps22
     go_upto_region 2 with (first | (go_at_call 49; (with_reducible refine (digit_yes v g s 0 0 0 0 none 0 [] 6 b0 _ SP.out (by omega) (by omega) hs (by omega)).mono ?_); rintro e w1 ⟨rfl, hR_, hK_⟩; have SPn := zA (show Rs v g s 1 0 0 0 none 0 [] w1 from hR_); have HKn := zA (keep_trans HK.out hK_); clear SP HK hR_ hK_; have SP := SPn; have HK := HKn; clear SPn HKn))
     go_upto_region 4 with (first | (go_at_call 50; (with_reducible refine (is_yes v g s 1 0 0 0 none 0 [] 32 b1 _ SP.out (by omega) (by omega) hs).mono ?_); rintro e w2 ⟨rfl, hR_, hK_⟩; have SPn := zA (show Rs v g s 2 0 0 0 none 0 [] w2 from hR_); have HKn := zA (keep_trans HK.out hK_); clear SP HK hR_ hK_; have SP := SPn; have HK := HKn; clear SPn HKn))
     go_upto_region 5 with (first | (go_at_call 49; (with_reducible refine (digit_yes v g s 2 0 0 0 none 0 [] 4 b2 _ SP.out (by omega) (by omega) hs (by omega)).mono ?_); rintro e w3 ⟨rfl, hR_, hK_⟩; have SPn := zA (show Rs v g s 3 0 0 0 none 0 [] w3 from hR_); have HKn := zA (keep_trans HK.out hK_); clear SP HK hR_ hK_; have SP := SPn; have HK := HKn; clear SPn HKn))
     go_upto_region 6 with (first | (go_at_call 50; (with_reducible refine (is_no v g s 3 0 0 0 none 0 [] 10 b3 _ SP.out (by omega) (by omega) hs).mono ?_); rintro e w4 ⟨rfl, hR_, hK_⟩; have SPn := zA hR_; have HKn := zA (keep_trans HK.out hK_); clear SP HK hR_ hK_; have SP := SPn; have HK := HKn; clear SPn HKn))
     clear fb0 fb1 fb2 fb3; have x1 : w4.cell? ⟨g, 1, none⟩ = some (.int .i64 3) := (zK SP.out.box 1).trans rfl; go_wp2_with (first | (go_at_call 51; (with_reducible refine (fault_calls v g s 3 0 0 0 none 0 [] 2 3 _ SP.out).mono ?_); rintro e wf ⟨rfl, hR_, hK_⟩; have SPn := zA hR_; have HKn := zA (keep_trans HK.out hK_); clear SP HK hR_ hK_; have SP := SPn; have HK := HKn; clear SPn HKn; (try clear x1))); go_ret; exact ⟨rfl, SP.out, HK.out⟩
    | true =>
     have EH : headF s = 4 := by rw [HE.out]; simp only [b0, b1, b2, b3, if_true]; try rfl
     rw [EH]; clear EH; show Calls Try.prog 22 #[.pointer (some ⟨g, 0, none⟩)] w fun e w' => e = .returned (.bool true) ∧ Rs v g s 4 0 (bt s 0 - 48) (bt s 2 - 48) none 0 [] w' ∧ KeepBut w w' g none
     go_enter Try.func22, Try.ntmps22
     go_upto_region 2 with (first | (go_at_call 49; (with_reducible refine (digit_yes v g s 0 0 0 0 none 0 [] 6 b0 _ SP.out (by omega) (by omega) hs (by omega)).mono ?_); rintro e w1 ⟨rfl, hR_, hK_⟩; have SPn := zA (show Rs v g s 1 0 0 0 none 0 [] w1 from hR_); have HKn := zA (keep_trans HK.out hK_); clear SP HK hR_ hK_; have SP := SPn; have HK := HKn; clear SPn HKn))
     go_upto_region 4 with (first | (go_at_call 50; (with_reducible refine (is_yes v g s 1 0 0 0 none 0 [] 32 b1 _ SP.out (by omega) (by omega) hs).mono ?_); rintro e w2 ⟨rfl, hR_, hK_⟩; have SPn := zA (show Rs v g s 2 0 0 0 none 0 [] w2 from hR_); have HKn := zA (keep_trans HK.out hK_); clear SP HK hR_ hK_; have SP := SPn; have HK := HKn; clear SPn HKn))
     go_upto_region 5 with (first | (go_at_call 49; (with_reducible refine (digit_yes v g s 2 0 0 0 none 0 [] 4 b2 _ SP.out (by omega) (by omega) hs (by omega)).mono ?_); rintro e w3 ⟨rfl, hR_, hK_⟩; have SPn := zA (show Rs v g s 3 0 0 0 none 0 [] w3 from hR_); have HKn := zA (keep_trans HK.out hK_); clear SP HK hR_ hK_; have SP := SPn; have HK := HKn; clear SPn HKn))
     go_upto_region 7 with (first | (go_at_call 50; (with_reducible refine (is_yes v g s 3 0 0 0 none 0 [] 10 b3 _ SP.out (by omega) (by omega) hs).mono ?_); rintro e w4 ⟨rfl, hR_, hK_⟩; have SPn := zA (show Rs v g s 4 0 0 0 none 0 [] w4 from hR_); have HKn := zA (keep_trans HK.out hK_); clear SP HK hR_ hK_; have SP := SPn; have HK := HKn; clear SPn HKn))
     clear fb0 fb1 fb2 fb3; have x3 : w4.cell? ⟨g, 3, none⟩ = some (.int .i64 0) := (zK SP.out.box 3).trans rfl; have f3 := zL SP.out.box 3; have x4 : w4.cell? ⟨g, 4, none⟩ = some (.int .i64 0) := (zK SP.out.box 4).trans rfl; have f4 := zL SP.out.box 4; have x5 : w4.cell? ⟨g, 5, none⟩ = some (.slice none 0 0) := (zK SP.out.box 5).trans rfl; have f5 := zL SP.out.box 5; go_wp2; go_ret; exact ⟨rfl, ((SP.out.set3 _).set4 _).set5 _ rfl, by repeat (first | exact HK.out | apply KeepBut.set_ | apply keepN | apply keepD)⟩
def stepC (mk : S56 → List Bool → Bool) (x : S56) (q : List Bool × Bool) : List Bool × Bool := if (!q.1.getD x.f0.toNat false && mk x q.1) = true then (q.1.set x.f0.toNat true, true) else q
def passC (mk : S56 → List Bool → Bool) (l : List S56) (q : List Bool × Bool) : List Bool × Bool := l.foldl (fun q x => stepC mk x q) q
def closeN (mk : S56 → List Bool → Bool) (l : List S56) : Nat → List Bool → List Bool
 | 0, s => s
 | n + 1, s => if (passC mk l (s, false)).2 = true then closeN mk l n (passC mk l (s, false)).1 else (passC mk l (s, false)).1
def closedF (mk : S56 → List Bool → Bool) (l : List S56) : List Bool := closeN mk l 7 [false, false, false, false, false, false]
def okR6 (x : S56) : Prop := (0 ≤ x.f0 ∧ x.f0 < 6) ∧ ∀ j : Nat, j < x.f1.length → rd x.f1 j < 6
def PredC (g : Nat) (lb : Array Value) (mk : S56 → List Bool → Bool) (w : World) : Prop :=
 ∀ (W : World) (x : S56) (A : Option Addr) (c : Nat) (b0 b1 b2 b3 b4 b5 : Bool), Below w.heap.size w W → x.f1.length ≤ c → Kd.C (Kd.int .i64) W A x.f1.length x.f1 → okR6 x →
  Calls Try.prog g (#[.agg #[.int .i64 x.f0, .slice A x.f1.length c], .agg #[.bool b0, .bool b1, .bool b2, .bool b3, .bool b4, .bool b5]] ++ lb) W fun e w' => e = .returned (.bool (mk x [b0, b1, b2, b3, b4, b5])) ∧ Below W.heap.size W w'
def cntF (s : List Bool) : Nat := s.count false
def nulP (s : List Bool) (x : Int) : Bool := decide (x < 0) || !s.getD x.toNat false
def proP (s : List Bool) (x : Int) : Bool := decide (0 ≤ x) && !s.getD x.toNat false
def groP (s : List Bool) (x : Int) : Bool := decide (x < 0) || s.getD x.toNat false
def mkNul (r : S56) (s : List Bool) : Bool := !(r.f1.any (nulP s))
def mkPro (r : S56) (s : List Bool) : Bool := !(r.f1.any (proP s))
def mkGro (pr : List Bool) (r : S56) (s : List Bool) : Bool := !(r.f1.any (proP pr)) && r.f1.any (groP s)
def placesF : Nat → List Bool → List Int
 | _, [] => []
 | i, b :: s => if b = true then (i : Int) :: placesF (i + 1) s else placesF (i + 1) s
end Go.Proofs.Ytodacikpbcgndaa.P
namespace Go.Proofs.Ytodacikpbcgndaa.P
open Go.RowKit Go.Proofs.YtodacikpbcgndaaW.PrintWords Go.Proofs.YtodacikpbcgndaaW.PrintLast Go.Proofs.YtodacikpbcgndaaW.PrintMore
attribute [local go_sem] max2_int min2_int max_two min_two max_three min_three max_four min_four
set_option linter.unusedVariables false
set_option linter.unusedSimpArgs false
def spec_l1Has.l0 : Nat → Int → List Int → Int → Int → Option (Bool)
 | 0, _, _, _, _ => none
 | k + 1, x1, x7, x8, x9 => if x9 < x8 then (if 0 ≤ x9 then (if x9 < (x7.length : Int) then (if (rd x7 x9) = x1 then (some true) else (spec_l1Has.l0 k x1 x7 x8 (wrap64 (x9 + 1)))) else (none)) else (none)) else (some false)
def spec_l1Has.f (k : Nat) (l0 : List Int) (a1 : Int) : Option (Bool) := spec_l1Has.l0 k a1 l0 (l0.length : Int) 0
def spec_l1Put.l0 : Nat → List Int → Int → Int → Option (List Int)
 | 0, _, _, _ => none
 | k + 1, x0, x1, x5 => if x5 < (x0.length : Int) then (if 0 ≤ x5 then (if (rd x0 x5) < x1 then (spec_l1Put.l0 k x0 x1 (wrap64 (x5 + 1))) else (if (rd x0 x5) = x1 then (some x0) else ((some (([] : List Int) : List Int)).bind fun y103 => (if x5 ≤ (x0.length : Int) then ((some (x0.take (x5 : Int).toNat : List Int)).bind fun y106 => (if y103.length + y106.length < 17592186044416 then ((some (y103 ++ y106 : List Int)).bind fun y110 => (if y110.length < 17592186044416 then ((some (y110 ++ [x1] : List Int)).bind fun y113 => ((some (x0.drop (x5 : Int).toNat : List Int)).bind fun y116 => (if y113.length + y116.length < 17592186044416 then (some (y113 ++ y116)) else (none)))) else (none))) else (none))) else (none))))) else (none)) else ((some (([] : List Int) : List Int)).bind fun y123 => (if 0 ≤ x5 then (if x5 ≤ (x0.length : Int) then ((some (x0.take (x5 : Int).toNat : List Int)).bind fun y126 => (if y123.length + y126.length < 17592186044416 then ((some (y123 ++ y126 : List Int)).bind fun y130 => (if y130.length < 17592186044416 then ((some (y130 ++ [x1] : List Int)).bind fun y133 => ((some (x0.drop (x5 : Int).toNat : List Int)).bind fun y136 => (if y133.length + y136.length < 17592186044416 then (some (y133 ++ y136)) else (none)))) else (none))) else (none))) else (none)) else (none)))
def spec_l1Put.f (k : Nat) (l0 : List Int) (a1 : Int) : Option (List Int) := spec_l1Put.l0 k l0 a1 0
mutual
def spec_l3Close.l0 : Nat → Bool → List Int → Bool → Int → Int → List (S56) → Option (List Int)
 | 0, _, _, _, _, _, _ => none
 | k + 1, x1, x5, x6, x102000, x102001, x102002 => if x6 = true then (spec_l3Close.l1 k x1 x5 false x102002 (x102002.length : Int) 0 x102000 x102001 x102002) else (some x5)
def spec_l3Close.l1 : Nat → Bool → List Int → Bool → List (S56) → Int → Int → Int → Int → List (S56) → Option (List Int)
 | 0, _, _, _, _, _, _, _, _, _ => none
 | k + 1, x1, x5, x6, x14, x15, x16, x102000, x102001, x102002 => if x16 < x15 then (if 0 ≤ x16 then (if x16 < (x14.length : Int) then ((spec_l1Has.f k x5 ((rd_T56 x14 x16).f0)).bind fun t104 => (spec_l3Close.l2 k x1 x5 x6 (!t104) x14 x15 x16 ((rd_T56 x14 x16).f1) (((rd_T56 x14 x16).f1).length : Int) 0 x102000 x102001 x102002 ((rd_T56 x14 x16).f0) ((rd_T56 x14 x16).f1))) else (none)) else (none)) else (spec_l3Close.l0 k x1 x5 x6 x102000 x102001 x102002)
def spec_l3Close.l2 : Nat → Bool → List Int → Bool → Bool → List (S56) → Int → Int → List Int → Int → Int → Int → Int → List (S56) → Int → List Int → Option (List Int)
 | 0, _, _, _, _, _, _, _, _, _, _, _, _, _, _, _ => none
 | k + 1, x1, x5, x6, x9, x14, x15, x16, x26, x27, x28, x102000, x102001, x102002, x104000, x104001 => if x28 < x27 then (if 0 ≤ x28 then (if x28 < (x26.length : Int) then (if x9 = true then (if (rd x26 x28) < 0 then (if x1 = true then (spec_l3Close.l2 k x1 x5 x6 true x14 x15 x16 x26 x27 (wrap64 (x28 + 1)) x102000 x102001 x102002 x104000 x104001) else (if (rd x26 x28) ≥ 0 then ((spec_l1Has.f k x5 (rd x26 x28)).bind fun t106 => (spec_l3Close.l2 k x1 x5 x6 t106 x14 x15 x16 x26 x27 (wrap64 (x28 + 1)) x102000 x102001 x102002 x104000 x104001)) else (spec_l3Close.l2 k x1 x5 x6 false x14 x15 x16 x26 x27 (wrap64 (x28 + 1)) x102000 x102001 x102002 x104000 x104001))) else (if (rd x26 x28) ≥ 0 then ((spec_l1Has.f k x5 (rd x26 x28)).bind fun t107 => (spec_l3Close.l2 k x1 x5 x6 t107 x14 x15 x16 x26 x27 (wrap64 (x28 + 1)) x102000 x102001 x102002 x104000 x104001)) else (spec_l3Close.l2 k x1 x5 x6 false x14 x15 x16 x26 x27 (wrap64 (x28 + 1)) x102000 x102001 x102002 x104000 x104001))) else (spec_l3Close.l2 k x1 x5 x6 false x14 x15 x16 x26 x27 (wrap64 (x28 + 1)) x102000 x102001 x102002 x104000 x104001)) else (none)) else (none)) else (if x9 = true then ((spec_l1Put.f k x5 x104000).bind fun t108 => (spec_l3Close.l1 k x1 t108 true x14 x15 (wrap64 (x16 + 1)) x102000 x102001 x102002)) else (spec_l3Close.l1 k x1 x5 x6 x14 x15 (wrap64 (x16 + 1)) x102000 x102001 x102002))
end
def spec_l3Close.f (k : Nat) (a0_0 : Int) (a0_1 : Int) (l0_2 : List (S56)) (a1 : Bool) : Option (List Int) := spec_l3Close.l0 k a1 ([] : List Int) true a0_0 a0_1 l0_2
mutual
def spec_l3Growing.l0 : Nat → List Int → List Int → Bool → Int → Int → List (S56) → Option (List Int)
 | 0, _, _, _, _, _, _ => none
 | k + 1, x3, x4, x5, x102000, x102001, x102002 => if x5 = true then (spec_l3Growing.l1 k x3 x4 false x102002 (x102002.length : Int) 0 x102000 x102001 x102002) else (some x4)
def spec_l3Growing.l1 : Nat → List Int → List Int → Bool → List (S56) → Int → Int → Int → Int → List (S56) → Option (List Int)
 | 0, _, _, _, _, _, _, _, _, _ => none
 | k + 1, x3, x4, x5, x16, x17, x18, x102000, x102001, x102002 => if x18 < x17 then (if 0 ≤ x18 then (if x18 < (x16.length : Int) then (spec_l3Growing.l2 k x3 x4 x5 true false x16 x17 x18 ((rd_T56 x16 x18).f1) (((rd_T56 x16 x18).f1).length : Int) 0 x102000 x102001 x102002 ((rd_T56 x16 x18).f0) ((rd_T56 x16 x18).f1)) else (none)) else (none)) else (spec_l3Growing.l0 k x3 x4 x5 x102000 x102001 x102002)
def spec_l3Growing.l2 : Nat → List Int → List Int → Bool → Bool → Bool → List (S56) → Int → Int → List Int → Int → Int → Int → Int → List (S56) → Int → List Int → Option (List Int)
 | 0, _, _, _, _, _, _, _, _, _, _, _, _, _, _, _, _ => none
 | k + 1, x3, x4, x5, x8, x9, x16, x17, x18, x23, x24, x25, x102000, x102001, x102002, x107000, x107001 => if x25 < x24 then (if 0 ≤ x25 then (if x25 < (x23.length : Int) then (if x8 = true then (if (rd x23 x25) < 0 then (if x9 = true then (spec_l3Growing.l2 k x3 x4 x5 true true x16 x17 x18 x23 x24 (wrap64 (x25 + 1)) x102000 x102001 x102002 x107000 x107001) else (spec_l3Growing.l2 k x3 x4 x5 true true x16 x17 x18 x23 x24 (wrap64 (x25 + 1)) x102000 x102001 x102002 x107000 x107001)) else ((spec_l1Has.f k x3 (rd x23 x25)).bind fun t108 => (if x9 = true then (spec_l3Growing.l2 k x3 x4 x5 t108 true x16 x17 x18 x23 x24 (wrap64 (x25 + 1)) x102000 x102001 x102002 x107000 x107001) else ((spec_l1Has.f k x4 (rd x23 x25)).bind fun t109 => (spec_l3Growing.l2 k x3 x4 x5 t108 t109 x16 x17 x18 x23 x24 (wrap64 (x25 + 1)) x102000 x102001 x102002 x107000 x107001))))) else (if x9 = true then (spec_l3Growing.l2 k x3 x4 x5 false true x16 x17 x18 x23 x24 (wrap64 (x25 + 1)) x102000 x102001 x102002 x107000 x107001) else (if (rd x23 x25) < 0 then (spec_l3Growing.l2 k x3 x4 x5 false true x16 x17 x18 x23 x24 (wrap64 (x25 + 1)) x102000 x102001 x102002 x107000 x107001) else ((spec_l1Has.f k x4 (rd x23 x25)).bind fun t110 => (spec_l3Growing.l2 k x3 x4 x5 false t110 x16 x17 x18 x23 x24 (wrap64 (x25 + 1)) x102000 x102001 x102002 x107000 x107001))))) else (none)) else (none)) else (if x8 = true then (if x9 = true then ((spec_l1Has.f k x4 x107000).bind fun t111 => (if t111 = true then (spec_l3Growing.l1 k x3 x4 x5 x16 x17 (wrap64 (x18 + 1)) x102000 x102001 x102002) else ((spec_l1Put.f k x4 x107000).bind fun t112 => (spec_l3Growing.l1 k x3 t112 true x16 x17 (wrap64 (x18 + 1)) x102000 x102001 x102002)))) else (spec_l3Growing.l1 k x3 x4 x5 x16 x17 (wrap64 (x18 + 1)) x102000 x102001 x102002)) else (spec_l3Growing.l1 k x3 x4 x5 x16 x17 (wrap64 (x18 + 1)) x102000 x102001 x102002))
end
def spec_l3Growing.f (k : Nat) (a0_0 : Int) (a0_1 : Int) (l0_2 : List (S56)) : Option (List Int) := (spec_l3Close.f k a0_0 a0_1 l0_2 true).bind fun t102 => (spec_l3Growing.l0 k t102 ([] : List Int) true a0_0 a0_1 l0_2)
end Go.Proofs.Ytodacikpbcgndaa.P
namespace Go.Proofs.Ytodacikpbcgndaa.P
open Go.RowKit Go.Proofs.YtodacikpbcgndaaW.PrintWords
set_option linter.unusedVariables false
set_option linter.unusedSimpArgs false
theorem rd_mem {l : List S56} {x : S56} (h : x ∈ l) : ∃ j : Nat, j < l.length ∧ rd_T56 l j = x := by
 obtain ⟨j, hj, rfl⟩ := List.getElem_of_mem h; refine ⟨j, hj, ?_⟩; unfold rd_T56; rw [List.getD_eq_getElem?_getD, Int.toNat_natCast, List.getElem?_eq_getElem hj]; rfl
def okL (l : List S56) : Prop := l.length ≤ 16 ∧ ∀ j : Nat, j < l.length → okR6 (rd_T56 l j) ∧ (rd_T56 l j).f1.length ≤ 4
def allT (tok : Bool) (s : List Bool) (l : List Int) : Bool := l.all fun x => if x < 0 then tok else s.getD x.toNat false
def mkT (tok : Bool) (r : S56) (s : List Bool) : Bool := allT tok s r.f1
end Go.Proofs.Ytodacikpbcgndaa.P
namespace Go.Proofs.Ytodacikpbcgndaa.P
open Go.RowKit Go.Proofs.YtodacikpbcgndaaW.PrintWords Go.Proofs.YtodacikpbcgndaaW.PrintLast Go.Proofs.YtodacikpbcgndaaW.PrintMore
set_option linter.unusedVariables false
set_option linter.unusedSimpArgs false
def by2 (W : World) (a b : Value) : World := ((W.alloc (.cells #[.int .i64 0, .slice none 0 0] 56 (0, 0))).setCell ⟨W.heap.size, 0, none⟩ a).setCell ⟨W.heap.size, 1, none⟩ b
theorem any_of {l : List S56} {y : S56} {j : Nat} (hj : j < l.length) (h : sameR (rd_T56 l j) y = true) : l.any (fun o => sameR o y) = true := by
 rw [List.any_eq_true]; refine ⟨rd_T56 l j, ?_, h⟩; unfold rd_T56; rw [Int.toNat_natCast, List.getD_eq_getElem?_getD, List.getElem?_eq_getElem hj]; exact List.getElem_mem hj
theorem any_no {l : List S56} {y : S56} (h : ∀ j : Nat, j < l.length → sameR (rd_T56 l j) y = false) : l.any (fun o => sameR o y) = false := by
 cases c : l.any (fun o => sameR o y) with
 | false => rfl
 | true =>
  obtain ⟨x, hx, hs⟩ := List.any_eq_true.1 c; obtain ⟨j, hj, e⟩ := rd_mem hx; rw [← e, h j hj] at hs; cases hs
theorem sz_rule : (k56).sz = 2 := rfl
set_option maxHeartbeats 8000000 in
set_option maxRecDepth 100000 in
theorem l1Put2_calls (A0 : Option Addr) (c0 : Nat) (rs : List S56) (base : Nat) (ok : Nat → Prop) (y : S56) (Ay : Option Addr) (cy : Nat) (w : World) (HS : Kd.S k56 56 w base ok (.slice A0 rs.length c0) rs) (hbase : base ≤ w.heap.size)
 (hy : Kd.C (Kd.int .i64) w Ay y.f1.length y.f1) (hcy : y.f1.length ≤ cy) (h16 : rs.length ≤ 16) (hsm : ∀ j : Nat, j < rs.length → (rd_T56 rs j).f1.length ≤ 4) (hy4 : y.f1.length ≤ 4) (m : Nat) (hm : m = rs.length + (if rs.any (fun o => sameR o y) = true then 0 else 1)) :
 Calls Try.prog 53 #[.slice A0 rs.length c0, .agg #[.int .i64 y.f0, .slice Ay y.f1.length cy]] w fun e w' => (∃ A c, e = .returned (.slice A m c)) ∧ Kd.S k56 56 w' base ok (.slice A0 rs.length c0) rs ∧ Below base w w' ∧ (∀ q, q < w.heap.size → some q ≠ (Value.slice A0 rs.length c0).ownBlock → w'.heap[q]? = w.heap[q]?) := by
 have hu := Try.underlying56; have HC := zA (Kd.S_reads' HS); have HS0 := zA HS; have HY := zA hy; have HCY := zA hcy; have HSM := zA hsm; have HBASE := zA hbase; have HM := zA hm; have HB := zA (Below.refl w.heap.size w); clear hy hcy hsm HS hbase hm; go_enter Try.func53, Try.ntmps53; go_wp2_with (first | ((with_reducible refine gate_dst (N := 3) rfl ?_); refine box_event ?hg (N := 3) ?hd (cs := #[.int .i64 y.f0, .slice Ay y.f1.length cy]) (t := 56) ?hr ?_; (case hd => rfl); (case hg => rfl); (case hr => first | (go_simp; done) | (go_simp; rfl)); intro gy hg_ w1 hbox_ hb_; have GE_gy := zA (show w.heap.size ≤ gy by rw [hg_]; exact zF (by repeat (first | (with_reducible first | exact HB.out | apply zB | apply zC | apply zD) | exact HB.out))); have n0_ := zA (zG (by repeat (first | (with_reducible first | exact HB.out | apply zB | apply zC | apply zD) | exact HB.out)) hb_); clear HB; have HB := n0_; clear n0_; have B_gy := zA hbox_; clear hb_ hbox_ hg_)); go_loopg [9] rs.length (fun gg_ s9 wr => ∃ kk : Nat, kk ≤ rs.length ∧ rs.length - kk ≤ gg_ ∧ s9 = .int .i64 kk ∧ Aside0 (∀ j : Nat, j < kk → sameR (rd_T56 rs j) y = false) ∧ Aside0 (wr.heap[gy]? = some (.cells #[.int .i64 y.f0, .slice Ay y.f1.length cy] 56 (0, 0))) ∧ Aside0 (Below w.heap.size w wr))
 case atStart => exact ⟨0, Nat.zero_le _, by omega, rfl, ⟨fun j h => absurd h (Nat.not_lt_zero _)⟩, B_gy, HB⟩
 case round =>
  clear B_gy HB; obtain ⟨kk, hkk, hg, rfl, NS, B_gy, HB⟩ := hrel; by_cases hlt : kk < rs.length
  · have hd : decide (kk < rs.length) = true := decide_eq_true hlt; have hdi : decide ((kk : Int) < (rs.length : Int)) = true := decide_eq_true (by omega); obtain ⟨ad, A1, c1, e, hx0, hx1, hl1, hi1⟩ := at_T56 HC.out.2.2 (kk : Int) (by omega) (by omega); subst e; replace hx0 := (HB.out.cell (World.block_lt_of_cell? w _ hx0)).trans hx0; replace hx1 := (HB.out.cell (World.block_lt_of_cell? w _ hx1)).trans hx1; have hx2 : wr.cell? (ad.add (kk * 2)) = some (.int .i64 (rd_T56 rs kk).f0) := by simpa using hx0
    have hx3 : wr.cell? ⟨(ad.add (kk * 2)).block, (ad.add (kk * 2)).off + 1, none⟩ = some (.slice A1 (rd_T56 rs kk).f1.length c1) := by simpa using hx1
    clear hx0 hx1; have HI := zA hi1; have HL := zA hl1; have L := zA hlt; have SM := zA (HSM.out kk hlt); have AF := zA (any_of (y := y) hlt); obtain ⟨x, hx⟩ : ∃ x, x = rd_T56 rs kk := ⟨_, rfl⟩
    rw [← hx] at hx2 hx3 HI HL SM AF; have HX := zA hx; have HGK := zA hg; clear hl1 hi1 hx hg hkk
    go_upto_region 4 with (first | ((with_reducible refine gate_dst (N := 6) rfl ?_); refine box_event ?hg (N := 6) ?hd (cs := #[.int .i64 0, .slice none 0 0]) (t := 56) ?hr ?_; (case hd => rfl); (case hg => rfl); (case hr => first | (go_simp; done) | (go_simp; rfl)); intro gx hg_ w2 hbox_ hb_; have GE_gx := zA (show w.heap.size ≤ gx by rw [hg_]; exact zF (by repeat (first | (with_reducible first | exact HB.out | apply zB | apply zC | apply zD) | exact HB.out))); have NE_gy_gx := zA (show gy ≠ gx by rw [hg_]; exact Nat.ne_of_lt (blk_lt (by (with_reducible repeat (first | refine blk_drewN ?_ _ | refine blk_drew ?_ | refine zH ?_ _)); exact B_gy.out))); have n0_ := zA (zG (by repeat (first | (with_reducible first | exact HB.out | apply zB | apply zC | apply zD) | exact HB.out)) hb_); have n_gy := zA (zM (by (with_reducible repeat (first | refine blk_drewN ?_ _ | refine blk_drew ?_ | refine zH ?_ _)); exact B_gy.out) hb_); clear HB B_gy; have HB := n0_; have B_gy := n_gy; clear n0_ n_gy; have B_gx := zA hbox_; clear hb_ hbox_ hg_; have x_gx_0 : w2.cell? ⟨gx, 0, none⟩ = some (.int .i64 0) := (zK B_gx.out 0).trans rfl; have f_gx_0 := zL B_gx.out 0; have x_gx_1 : w2.cell? ⟨gx, 1, none⟩ = some (.slice none 0 0) := (zK B_gx.out 1).trans rfl; have f_gx_1 := zL B_gx.out 1))
    obtain ⟨w3, hw_⟩ : ∃ w_ : World, w_ = ((w2.setCell ⟨gx, 0, none⟩ (.int .i64 x.f0)).setCell ⟨gx, 1, none⟩ (.slice A1 x.f1.length c1)) := ⟨_, rfl⟩
    rw [← hw_]; clear x_gx_0 f_gx_0 x_gx_1 f_gx_1; have m0_ := zA (show Below w.heap.size w w3 by rw [hw_]; exact (zE (zE HB.out GE_gx.out) GE_gx.out)); have m_gy := zA (show w3.heap[gy]? = some (.cells #[.int .i64 y.f0, .slice Ay y.f1.length cy] 56 (0, 0)) by rw [hw_]; exact (zN (zN B_gy.out NE_gy_gx.out _) NE_gy_gx.out _)); have m_gx := zA (show w3.heap[gx]? = some (.cells #[.int .i64 x.f0, .slice A1 x.f1.length c1] 56 (0, 0)) by rw [hw_]; exact (zO (cs := #[.int .i64 x.f0, .slice none 0 0]) (zO (cs := #[.int .i64 0, .slice none 0 0]) B_gx.out 0 _ rfl) 1 _ rfl)); clear HB hw_ B_gy B_gx; have HB := m0_; have B_gy := m_gy; have B_gx := m_gx; clear m0_ m_gy m_gx; have x_gy_0 : w3.cell? ⟨gy, 0, none⟩ = some (.int .i64 y.f0) := (zK B_gy.out 0).trans rfl; have x_gy_1 : w3.cell? ⟨gy, 1, none⟩ = some (.slice Ay y.f1.length cy) := (zK B_gy.out 1).trans rfl; have x_gx_0 : w3.cell? ⟨gx, 0, none⟩ = some (.int .i64 x.f0) := (zK B_gx.out 0).trans rfl; have x_gx_1 : w3.cell? ⟨gx, 1, none⟩ = some (.slice A1 x.f1.length c1) := (zK B_gx.out 1).trans rfl; clear hx2 hx3; have CS := fun (W : World) (hW : Below w.heap.size w W) => spec_l1SameRule.calls 6 y.f0 Ay cy y.f1 x.f0 A1 c1 x.f1 (sameR y x) W (zS HY.out hW) HCY.out (zS HI.out hW) HL.out (l1SameRule_eq y x (by have := SM.out; omega) 6 (by omega))
    have SX := zA (sameR_comm y x); generalize sameR y x = b at CS SX; cases b with
    | true =>
     go_wp2_with (first | (go_at_call 30; (with_reducible refine (CS _ HB.out).mono ?_); rintro e w4 ⟨rfl, hb_⟩; clear x_gy_0 x_gy_1 x_gx_0 x_gx_1; have n0_ := zA (zG (by repeat (first | (with_reducible first | exact HB.out | apply zB | apply zC | apply zD) | exact HB.out)) hb_); have n_gy := zA (zM (by (with_reducible repeat (first | refine blk_drewN ?_ _ | refine blk_drew ?_ | refine zH ?_ _)); exact B_gy.out) hb_); have n_gx := zA (zM (by (with_reducible repeat (first | refine blk_drewN ?_ _ | refine blk_drew ?_ | refine zH ?_ _)); exact B_gx.out) hb_); clear HB B_gy B_gx; have HB := n0_; have B_gy := n_gy; have B_gx := n_gx; clear n0_ n_gy n_gx; clear hb_)); have AT := zA (show m = rs.length by rw [HM.out, if_pos (AF.out SX.out.symm)]; rfl); go_ret; exact ⟨⟨_, _, by rw [AT.out]; rfl⟩, Kd.S_below HS0.out HB.out, ⟨HB.out.os, HB.out.tape, HB.out.output, HB.out.size, fun k hk => HB.out.block k (Nat.lt_of_lt_of_le hk HBASE.out)⟩, fun q hq _ => HB.out.block q hq⟩
    | false =>
     go_wp2_with (first | (go_at_call 30; (with_reducible refine (CS _ HB.out).mono ?_); rintro e w4 ⟨rfl, hb_⟩; clear x_gy_0 x_gy_1 x_gx_0 x_gx_1; have n0_ := zA (zG (by repeat (first | (with_reducible first | exact HB.out | apply zB | apply zC | apply zD) | exact HB.out)) hb_); have n_gy := zA (zM (by (with_reducible repeat (first | refine blk_drewN ?_ _ | refine blk_drew ?_ | refine zH ?_ _)); exact B_gy.out) hb_); have n_gx := zA (zM (by (with_reducible repeat (first | refine blk_drewN ?_ _ | refine blk_drew ?_ | refine zH ?_ _)); exact B_gx.out) hb_); clear HB B_gy B_gx; have HB := n0_; have B_gy := n_gy; have B_gx := n_gx; clear n0_ n_gy n_gx; clear hb_)); have NS2 := zA (show ∀ j : Nat, j < kk + 1 → sameR (rd_T56 rs j) y = false from fun j hj => by
      by_cases c : j = kk
      · subst c; rw [← HX.out]; exact SX.out.symm
      · exact NS.out j (by omega))
     go_roundg (rs.length - (kk + 1))
     case measure => have := L.out; have := HGK.out; omega
     case rel => exact ⟨kk + 1, L.out, Nat.le_refl _, by go_num, NS2, B_gy, HB⟩
  · have hd : decide (kk < rs.length) = false := decide_eq_false hlt; have hdi : decide ((kk : Int) < (rs.length : Int)) = false := decide_eq_false (by omega); have AN := zA (show m = rs.length + 1 by rw [HM.out, if_neg (by rw [any_no (l := rs) (y := y) (fun j hj => NS.out j (by omega))]; exact Bool.false_ne_true)]); have xy0 : wr.cell? ⟨gy, 0, none⟩ = some (.int .i64 y.f0) := (zK B_gy.out 0).trans rfl; have xy1 : wr.cell? ⟨gy, 1, none⟩ = some (.slice Ay y.f1.length cy) := (zK B_gy.out 1).trans rfl; clear hlt hkk hg NS
    go_upto_region 7 with (fail)
    go_wp2_with (first | (at_builtin; go_loud (refine append_keep k56 sz_rule (base := base) (ok := ok) rfl (.tmp 18) (.tmp 20) 28 _ 32 rfl Try.underlying28 info56 rfl A0 c0 rs rfl _ (.int .i64 y.f0) (.slice Ay y.f1.length cy) rfl ?a0 ?a1 rfl rfl ?aO ?aB (by omega) (by have : maxLen = 9223372036854775807 := rfl; omega) ?_); (case a0 => exact (zK (heap_alloc_new _ _) 0).trans rfl); (case a1 => exact (zK (heap_alloc_new _ _) 1).trans rfl); (case aO => exact Kd.S_below HS0.out (zB HB.out _)); (case aB => exact Nat.le_trans HBASE.out (Nat.le_trans HB.out.size (by simp))); intro A2 c2 w5 hS hB2 hQ; have HS2 := zA hS; have HB2 := zA hB2; have HQ := zA hQ; clear hS hB2 hQ)); go_ret; exact ⟨⟨A2, c2, by rw [AN.out]; rfl⟩, HS2.out, ((⟨HB.out.os, HB.out.tape, HB.out.output, HB.out.size, fun k hk => HB.out.block k (Nat.lt_of_lt_of_le hk HBASE.out)⟩ : Below base w wr).trans ((Below.refl base wr).alloc (Nat.le_trans HBASE.out HB.out.size) _)).trans HB2.out, fun q hq hn => (HQ.out q (by simp; have := HB.out.size; omega) hn).trans ((heap_alloc_old wr _ (Nat.lt_of_lt_of_le hq HB.out.size)).trans (HB.out.block q hq))⟩
structure Ls (v : World) (g : Nat) (s : ByteArray) (q n t : Int) (A : Option Addr) (c : Nat) (rs : List S56) (B gx : Nat) (left : Int) (vx : Value) (xs : List Int) (W : World) : Prop where
 below : Below v.heap.size v W
 box : W.heap[g]? = some (.cells #[.string s, .int .i64 q, .int .i64 0, .int .i64 n, .int .i64 t, .slice A rs.length c] 46 (0, 0))
 own : Kd.S k56 56 W v.heap.size (fun k => k ≠ g ∧ k < B) (.slice A rs.length c) rs
 bx : W.heap[gx]? = some (.cells #[.int .i64 left, vx] 56 (0, 0))
 rx : Kd.R (Kd.int .i64) 3 W v.heap.size (fun k => B ≤ k ∧ k ≠ gx) vx xs
 ge : v.heap.size ≤ g
 gB : g < B
 Bg : B ≤ gx
section
variable {v w W V : World} {g : Nat} {s : ByteArray} {q q2 n t : Int} {A : Option Addr} {c B gx : Nat} {rs : List S56} {left : Int} {vx v1 : Value} {xs ys : List Int}
theorem Ls.toRs (h : Ls v g s q n t A c rs B gx left vx xs W) : Rs v g s q 0 n t A c rs W := ⟨h.below, h.box, Kd.S_mono h.own (fun k hk => hk.1), h.ge⟩
theorem Ls.ne (h : Ls v g s q n t A c rs B gx left vx xs W) : gx ≠ g := by have := h.gB; have := h.Bg; omega
theorem Ls.next (h : Ls v g s q n t A c rs B gx left vx xs W) (hr : Rs v g s q2 0 n t A c rs V) (hk : KeepBut W V g none) : Ls v g s q2 n t A c rs B gx left vx xs V :=
 ⟨hr.below, hr.box, Kd.S_keep h.own hk (fun k hk => hk.1), hk.blk h.bx h.ne (by simp), Kd.R_keep h.rx hk (fun k hk e => by have := h.gB; have := hk.1; omega), h.ge, h.gB, h.Bg⟩
theorem Ls.go (h : Ls v g s q n t A c rs B gx left vx xs W) (k : Below W.heap.size W V) : Ls v g s q n t A c rs B gx left vx xs V := h.next (h.toRs.go k) (KeepBut.of_below k g none)
theorem Ls.set1 (h : Ls v g s q n t A c rs B gx left vx xs W) (x : Int) : Ls v g s x n t A c rs B gx left vx xs (W.setCell ⟨g, 1, none⟩ (.int .i64 x)) := h.next (h.toRs.set1 x) ((KeepBut.refl W g none).set_ 1 _)
theorem Ls.put (h : Ls v g s q n t A c rs B gx left vx xs W) (hb : Below v.heap.size v V) (hg : W.grownBy V vx.ownBlock) (hr : Kd.R (Kd.int .i64) 3 V v.heap.size (fun k => B ≤ k ∧ k ≠ gx) v1 ys) : Ls v g s q n t A c rs B gx left v1 ys (V.setCell ⟨gx, 1, none⟩ v1) :=
 ⟨zE hb (by have := h.ge; have := h.gB; have := h.Bg; omega), zN (blk_grown h.box hg (fun e => by have h_ := h.rx.1 g e.symm; have := h.gB; omega)) h.ne.symm _,
  Kd.S_far (Kd.S_grown h.own hg (fun k hk e => by have h_ := h.rx.1 k e.symm; omega)) (fun k hk => by have := h.Bg; have := hk.2; show k ≠ gx; omega) _,
  zO (blk_grown h.bx hg (fun e => by have h_ := h.rx.1 gx e.symm; exact h_.2 rfl)) 1 _ rfl, Kd.R_far hr (fun k hk => hk.2) _, h.ge, h.gB, h.Bg⟩
theorem Ls.put2 (h : Ls v g s q n t A c rs B gx left vx xs W) (hs : Kd.S k56 56 V v.heap.size (fun k => k ≠ g ∧ k < B) (.slice A rs.length c) rs) (hb : Below v.heap.size W V) (hq : ∀ z, z < W.heap.size → some z ≠ (Value.slice A rs.length c).ownBlock → V.heap[z]? = W.heap[z]?) : Ls v g s q n t A c rs B gx left vx xs V :=
 have own := (Kd.S_R h.own).1; have ng : some g ≠ (Value.slice A rs.length c).ownBlock := fun e => (own g e.symm).1 rfl
 have nx : ∀ z, B ≤ z → some z ≠ (Value.slice A rs.length c).ownBlock := fun z hz e => by have := (own z e.symm).2; omega
 ⟨h.below.trans hb, (hq g (blk_lt h.box) ng).trans h.box, hs, (hq gx (blk_lt h.bx) (nx gx h.Bg)).trans h.bx, Kd.R_step h.rx (fun k hk hl => hq k hl (nx k hk.1)), h.ge, h.gB, h.Bg⟩
theorem Ls.fin (h : Ls v g s q n t A c rs B gx left vx xs W) {A2 : Option Addr} {c2 : Nat} {rs2 : List S56} (hb : Below v.heap.size v V) (hg : W.grownBy V (Value.slice A rs.length c).ownBlock) (hs : Kd.S k56 56 V v.heap.size (fun k => k ≠ g) (.slice A2 rs2.length c2) rs2) : Rs v g s q 0 n t A2 c2 rs2 (V.setCell ⟨g, 5, none⟩ (.slice A2 rs2.length c2)) :=
 ⟨zE hb h.ge, zO (blk_grown h.box hg (fun e => ((Kd.S_R h.own).1 g e.symm).1 rfl)) 5 _ rfl, Kd.S_far hs (fun k hk => hk) _, h.ge⟩
end
def LineP (v : World) (g : Nat) (s : ByteArray) (n t : Int) (A : Option Addr) (c : Nat) (rs : List S56) (L : Int × Nat × List S56) (w' : World) : Prop :=
 (L.1 = 0 → ∃ A' c', Rs v g s (L.2.1 : Int) 0 n t A' c' L.2.2 w') ∧ (L.1 ≠ 0 → Rs v g s (L.2.1 : Int) L.1 n t A c rs w')
theorem lineP_bad {v : World} {g : Nat} {s : ByteArray} {n t : Int} {A : Option Addr} {c : Nat} {rs : List S56} {L : Int × Nat × List S56} {w' : World} {cd : Int} {pl : Nat} (hL : L = (cd, pl, rs)) (hc : cd ≠ 0) (h : Rs v g s (pl : Int) cd n t A c rs w') : LineP v g s n t A c rs L w' := by
 subst hL; exact ⟨fun e => absurd e hc, fun _ => h⟩
section
variable {n t : Int} {s : ByteArray} {q : Nat} {rs : List S56} {a : Int} {cd : Int} {pl : Nat} {xs : List Int}
theorem lineF_none (h : ltN n (bt s q) = none) : lineF n t s q rs = (3, q, rs) := by unfold lineF; rw [h]
theorem lineF_eq (h : ltN n (bt s q) = some a) (h2 : ¬ (q + 1 < s.size ∧ bt s (q + 1 : Nat) = 61)) : lineF n t s q rs = (3, q + 1, rs) := by unfold lineF; rw [h]; simp only; rw [if_neg h2]
theorem lineF_bad (h : ltN n (bt s q) = some a) (h2 : q + 1 < s.size ∧ bt s (q + 1 : Nat) = 61) (h3 : rightF n t s 5 (q + 2) [] = (cd, pl, xs)) (hc : cd ≠ 0) : lineF n t s q rs = (cd, pl, rs) := by
 unfold lineF; rw [h]; simp only; rw [if_pos h2, h3]; simp only; rw [if_pos hc]
theorem lineF_dup (h : ltN n (bt s q) = some a) (h2 : q + 1 < s.size ∧ bt s (q + 1 : Nat) = 61) (h3 : rightF n t s 5 (q + 2) [] = (0, pl, xs)) (h4 : rs.any (fun o => sameR o ⟨a, xs⟩) = true) : lineF n t s q rs = (5, q, rs) := by
 unfold lineF; rw [h]; simp only; rw [if_pos h2, h3]; simp only; rw [if_neg (by simp), if_pos h4]
theorem lineF_many (h : ltN n (bt s q) = some a) (h2 : q + 1 < s.size ∧ bt s (q + 1 : Nat) = 61) (h3 : rightF n t s 5 (q + 2) [] = (0, pl, xs)) (h4 : rs.any (fun o => sameR o ⟨a, xs⟩) = false) (h5 : rs.length = 16) : lineF n t s q rs = (6, q, rs) := by
 unfold lineF; rw [h]; simp only; rw [if_pos h2, h3]; simp only; rw [if_neg (by simp), if_neg (by rw [h4]; exact Bool.false_ne_true), if_pos h5]
theorem lineF_ok (h : ltN n (bt s q) = some a) (h2 : q + 1 < s.size ∧ bt s (q + 1 : Nat) = 61) (h3 : rightF n t s 5 (q + 2) [] = (0, pl, xs)) (h4 : rs.any (fun o => sameR o ⟨a, xs⟩) = false) (h5 : rs.length ≠ 16) : lineF n t s q rs = (0, pl, rs ++ [⟨a, xs⟩]) := by
 unfold lineF; rw [h]; simp only; rw [if_pos h2, h3]; simp only; rw [if_neg (by simp), if_neg (by rw [h4]; exact Bool.false_ne_true), if_neg h5]
theorem isB_true {b : Int} : isB s (q : Int) b = true ↔ q < s.size ∧ bt s q = b := by unfold isB; rw [decide_eq_true_eq]; omega
theorem isB_false {b : Int} : isB s (q : Int) b = false ↔ ¬ (q < s.size ∧ bt s q = b) := by unfold isB; rw [decide_eq_false_iff_not]; omega
theorem rightF_end {f : Nat} (h : q < s.size ∧ bt s q = 10) : rightF n t s (f + 1) q xs = (0, q + 1, xs) := by unfold rightF; rw [if_pos h]
theorem rightF_four {f : Nat} (h : ¬ (q < s.size ∧ bt s q = 10)) (h4 : xs.length = 4) : rightF n t s (f + 1) q xs = (4, q, xs) := by unfold rightF; rw [if_neg h, if_pos h4]
theorem rightF_stop {f : Nat} (h : ¬ (q < s.size ∧ bt s q = 10)) (h4 : xs.length ≠ 4) (h5 : s.size ≤ q) : rightF n t s (f + 1) q xs = (3, q, xs) := by unfold rightF; rw [if_neg h, if_neg h4, if_pos h5]
theorem rightF_no {f : Nat} (h : ¬ (q < s.size ∧ bt s q = 10)) (h4 : xs.length ≠ 4) (h5 : q < s.size) (h6 : symN n t (bt s q) = none) : rightF n t s (f + 1) q xs = (3, q, xs) := by unfold rightF; rw [if_neg h, if_neg h4, if_neg (by omega), h6]
theorem rightF_on {f : Nat} {y : Int} (h : ¬ (q < s.size ∧ bt s q = 10)) (h4 : xs.length ≠ 4) (h5 : q < s.size) (h6 : symN n t (bt s q) = some y) : rightF n t s (f + 1) q xs = rightF n t s f (q + 1) (xs ++ [y]) := by rw [rightF, if_neg h, if_neg h4, if_neg (by omega), h6]
end
set_option maxHeartbeats 16000000 in
set_option maxRecDepth 100000 in
theorem line_calls (v : World) (g : Nat) (s : ByteArray) (q : Nat) (n t : Int) (A : Option Addr) (c : Nat) (rs : List S56) (w : World) (h : Rs v g s (q : Int) 0 n t A c rs w) (hs : s.size ≤ 600) (hq : q < s.size) (hn : 1 ≤ n ∧ n ≤ 6) (ht : 1 ≤ t ∧ t ≤ 4)
 (h16 : rs.length ≤ 16) (hsm : ∀ j : Nat, j < rs.length → (rd_T56 rs j).f1.length ≤ 4) (L : Int × Nat × List S56) (hL : L = lineF n t s q rs) :
 Calls Try.prog 23 #[.pointer (some ⟨g, 0, none⟩)] w fun e w' => (∃ b : Bool, e = .returned (.bool b) ∧ (b = true ↔ L.1 = 0)) ∧ LineP v g s n t A c rs L w' := by
 have SP := zA h; have HL := zA hL; have HSM := zA hsm; have HN := zA hn; have HT := zA ht; have H16 := zA h16; clear h hL hsm hn ht h16; obtain ⟨qi, hqi⟩ : ∃ qi : Int, qi = (q : Int) := ⟨_, rfl⟩
 have HQ := zA hqi; rw [← hqi] at SP; have p7 : (0 : Int) ≤ qi := by omega
 have q7 : qi < (s.size : Int) := by omega
 have HBT := zA (bt_range s qi); have CA := fun (W : World) => spec_l2Symbol.calls 20 n 0 (bt s qi) (match ltN n (bt s qi) with | some x => x | none => 0) (match ltN n (bt s qi) with | some x => true | none => false) W (by rw [l2Sym_eq HN.out (by omega) HBT.out.1 HBT.out.2, symN_zero]; cases ltN n (bt s qi) <;> rfl)
 have e3 : wrap64 (qi + 1) = qi + 1 := by unfold wrap64; omega
 obtain ⟨q1, hq1⟩ : ∃ q1 : Int, q1 = ((q + 1 : Nat) : Int) := ⟨_, rfl⟩
 have HQ1 := zA (show qi + 1 = q1 by omega); have HQ2 := zA hq1; have hq10 : 0 ≤ q1 := by omega
 have hq1s : q1 ≤ s.size := by omega
 clear hqi hq1; cases hl : ltN n (bt s qi) with
 | none =>
  have LF := zA (HL.out.trans (lineF_none (by rw [← HQ.out]; exact hl))); have x0 : w.cell? ⟨g, 0, none⟩ = some (.string s) := (zK SP.out.box 0).trans rfl; have x1 : w.cell? ⟨g, 1, none⟩ = some (.int .i64 qi) := (zK SP.out.box 1).trans rfl; have x3 : w.cell? ⟨g, 3, none⟩ = some (.int .i64 n) := (zK SP.out.box 3).trans rfl; have hx7 := bt_at s qi; have d0 : decide ((0 : Int) ≤ qi) = true := decide_eq_true p7; have d1 : decide (qi < (s.size : Int)) = true := decide_eq_true q7; replace p7 := eq_true p7; replace q7 := eq_true q7; rw [hl] at CA; clear hl; go_enter Try.func23, Try.ntmps23
  go_upto_region 2 with (fail)
  go_quiet (first | (go_at_call 52; (with_reducible refine (CA _).mono ?_); rintro e w' ⟨rfl, ⟨nd, rfl⟩⟩; (try first | exact ⟨rfl, _, World.drewN_drewN _ _ _⟩ | exact ⟨rfl, _, Eq.trans (World.drewN_drewN _ _ _) (congrArg (World.drewN _) (Nat.add_assoc _ _ _))⟩)))
  clear x0 x1 x3; have SPn := zA (SP.out.drewN nq); generalize w.drewN nq = w1 at SPn ⊢; clear SP; have SP := SPn; clear SPn; have x1 : w1.cell? ⟨g, 1, none⟩ = some (.int .i64 qi) := (zK SP.out.box 1).trans rfl; go_wp2_with (first | (go_at_call 51; (with_reducible refine (fault_calls v g s qi 0 n t A c rs 3 qi _ SP.out).mono ?_); rintro e w2 ⟨rfl, hR_, hK_⟩; clear x1; have SPn := zA hR_; clear SP hR_ hK_; have SP := SPn; clear SPn)); go_ret; exact ⟨⟨false, rfl, by rw [LF.out]; simp⟩, lineP_bad LF.out (by omega) (by rw [← HQ.out]; exact SP.out)⟩
 | some a =>
  have HA := zA (show ltN n (bt s (q : Int)) = some a by rw [← HQ.out]; exact hl); have x0 : w.cell? ⟨g, 0, none⟩ = some (.string s) := (zK SP.out.box 0).trans rfl; have x1 : w.cell? ⟨g, 1, none⟩ = some (.int .i64 qi) := (zK SP.out.box 1).trans rfl; have x3 : w.cell? ⟨g, 3, none⟩ = some (.int .i64 n) := (zK SP.out.box 3).trans rfl; have hx7 := bt_at s qi; have d0 : decide ((0 : Int) ≤ qi) = true := decide_eq_true p7; have d1 : decide (qi < (s.size : Int)) = true := decide_eq_true q7; replace p7 := eq_true p7; replace q7 := eq_true q7; rw [hl] at CA; clear hl; go_enter Try.func23, Try.ntmps23
  go_upto_region 2 with (fail)
  go_quiet (first | (go_at_call 52; (with_reducible refine (CA _).mono ?_); rintro e w' ⟨rfl, ⟨nd, rfl⟩⟩; (try first | exact ⟨rfl, _, World.drewN_drewN _ _ _⟩ | exact ⟨rfl, _, Eq.trans (World.drewN_drewN _ _ _) (congrArg (World.drewN _) (Nat.add_assoc _ _ _))⟩)))
  clear x0 x1 x3 CA hx7 d0 d1 p7 q7; have SPn := zA (SP.out.drewN nq); generalize w.drewN nq = w1 at SPn ⊢; clear SP; have SP := SPn; clear SPn; have x1 : w1.cell? ⟨g, 1, none⟩ = some (.int .i64 qi) := (zK SP.out.box 1).trans rfl; have f1 := zL SP.out.box 1
  go_upto_region 6 with (fail)
  clear x1 f1; have SPn := zA (SP.out.set1 (qi + 1)); generalize w1.setCell ⟨g, 1, none⟩ (.int .i64 (qi + 1)) = w2 at SPn ⊢; rw [HQ1.out] at SPn; clear SP; have SP := SPn; clear SPn; cases hb : isB s q1 61 with
  | false =>
   have LF := zA (HL.out.trans (lineF_eq HA.out (isB_false.1 (by rw [← HQ2.out]; exact hb))))
   go_upto_region 7 with (first | (go_at_call 50; (with_reducible refine (is_no v g s q1 0 n t A c rs 61 hb _ SP.out hq10 hq1s hs).mono ?_); rintro e w3 ⟨rfl, hR_, hK_⟩; have SPn := zA hR_; clear SP hR_ hK_; have SP := SPn; clear SPn))
   have x1 : w3.cell? ⟨g, 1, none⟩ = some (.int .i64 q1) := (zK SP.out.box 1).trans rfl; go_wp2_with (first | (go_at_call 51; (with_reducible refine (fault_calls v g s q1 0 n t A c rs 3 q1 _ SP.out).mono ?_); rintro e w4 ⟨rfl, hR_, hK_⟩; clear x1; have SPn := zA hR_; clear SP hR_ hK_; have SP := SPn; clear SPn)); go_ret; exact ⟨⟨false, rfl, by rw [LF.out]; simp⟩, lineP_bad LF.out (by omega) (by rw [← HQ2.out]; exact SP.out)⟩
  | true =>
   have H61 := zA (show q + 1 < s.size ∧ bt s ((q + 1 : Nat) : Int) = 61 from isB_true.1 (by rw [← HQ2.out]; exact hb))
   go_upto_region 8 with (first | (go_at_call 50; (with_reducible refine (is_yes v g s q1 0 n t A c rs 61 hb _ SP.out hq10 hq1s hs).mono ?_); rintro e w3 ⟨rfl, hR_, hK_⟩; have SPn := zA hR_; clear SP hR_ hK_; have SP := SPn; clear SPn))
   go_upto_block 0 with (first | ((with_reducible refine gate_dst (N := 6) rfl ?_); refine box_event ?hg (N := 6) ?hd (cs := #[.int .i64 0, .slice none 0 0]) (t := 56) ?hr ?_; (case hd => rfl); (case hg => rfl); (case hr => first | (go_simp; done) | (go_simp; rfl)); intro gx hg_ w4 hbox_ hb_; have BX := zA hbox_; have HBX := zA hb_; have GX := zA (show w3.heap.size ≤ gx by rw [hg_]; exact Nat.le_refl _); have xr0 : w4.cell? ⟨gx, 0, none⟩ = some (.int .i64 0) := (zK BX.out 0).trans rfl; have fr0 := zL BX.out 0; have xr1 : w4.cell? ⟨gx, 1, none⟩ = some (.slice none 0 0) := (zK BX.out 1).trans rfl; have fr1 := zL BX.out 1; clear hbox_ hb_ hg_))
   have e4 : q1 + 1 = ((q + 2 : Nat) : Int) := by have := HQ2.out; omega
   have NG := zA (show g ≠ gx by have := blk_lt SP.out.box; have := GX.out; omega); have VG := zA (show v.heap.size ≤ gx from Nat.le_trans SP.out.below.size GX.out); have LS := zA (show Ls v g s (q1 + 1) n t A c rs w3.heap.size gx a (.slice none 0 0) [] ((w4.setCell ⟨gx, 0, none⟩ (.int .i64 a)).setCell ⟨gx, 1, none⟩ (.slice none 0 0)) from ⟨zE (zE (zG SP.out.below HBX.out) VG.out) VG.out, zN (zN (zM SP.out.box HBX.out) NG.out _) NG.out _, Kd.S_far (Kd.S_far (Kd.S_below (Kd.S_mono (Kd.S_bound SP.out.own) (fun k hk => ⟨hk.1, hk.2.2.1⟩)) HBX.out) (fun k hk => by have := GX.out; have := hk.2; show k ≠ gx; omega) _) (fun k hk => by have := GX.out; have := hk.2; show k ≠ gx; omega) _, zO (cs := #[.int .i64 a, .slice none 0 0]) (zO (cs := #[.int .i64 0, .slice none 0 0]) BX.out 0 _ rfl) 1 _ rfl, Kd.R_nil _ _ _ _ _, SP.out.ge, blk_lt SP.out.box, GX.out⟩); rw [e4] at LS; generalize (w4.setCell ⟨gx, 0, none⟩ (.int .i64 a)).setCell ⟨gx, 1, none⟩ (.slice none 0 0) = w5 at LS ⊢; generalize w3.heap.size = B at LS; clear SP BX HBX GX xr0 fr0 xr1 fr1 hb NG VG e4 hq10 hq1s; go_wp2; go_loopg [7] 5 (fun gg_ s7 wr => ∃ (qq f : Nat) (q2 : Int) (xs : List Int) (vx : Value), f ≤ gg_ ∧ Aside0 (q2 = (qq : Int)) ∧ Aside0 (rightF n t s 5 (q + 2) [] = rightF n t s f qq xs) ∧ Aside0 (1 ≤ f ∧ xs.length + f = 5 ∧ qq ≤ s.size) ∧ Aside0 (Ls v g s q2 n t A c rs B gx a vx xs wr))
   case atStart => exact ⟨q + 2, 5, _, [], _, Nat.le_refl _, ⟨rfl⟩, ⟨rfl⟩, ⟨by omega, rfl, by have := H61.out.1; omega⟩, LS⟩
   case round =>
    clear LS; obtain ⟨qq, f, q2, xs, vx, hf, HQ3, RF, FB, LS⟩ := hrel; obtain ⟨m, rfl⟩ : ∃ m, f = m + 1 := ⟨f - 1, by have := FB.out.1; omega⟩
    have h20 : 0 ≤ q2 := by have := HQ3.out; omega
    have h2s : q2 ≤ s.size := by have := HQ3.out; have := FB.out.2.2; omega
    cases hb : isB s q2 10 with
    | true =>
     have RE := zA (RF.out.trans (rightF_end (isB_true.1 (by rw [← HQ3.out]; exact hb))))
     go_upto_region 19 with (first | (go_at_call 50; (with_reducible refine (is_yes v g s q2 0 n t A c rs 10 hb _ LS.out.toRs h20 h2s hs).mono ?_); rintro e w6 ⟨rfl, hR_, hK_⟩; have LSn := zA (LS.out.next hR_ hK_); clear LS hR_ hK_; have LS := LSn; clear LSn))
     clear hb RF; obtain ⟨Ax, cx, ev_⟩ := Kd.R_slice LS.out.rx; subst ev_; obtain ⟨dup, hdup⟩ : ∃ b, b = rs.any (fun o => sameR o ⟨a, xs⟩) := ⟨_, rfl⟩
     have DU := zA hdup.symm; clear hdup; obtain ⟨mm, hmm⟩ : ∃ m : Nat, m = rs.length + (if dup = true then 0 else 1) := ⟨_, rfl⟩
     have X4 := zA (show xs.length ≤ 4 by have h_ := (rightF_up n t s 5 (q + 2) []).2.2 (by simp); rw [RE.out] at h_; exact h_); have MM := zA hmm; clear hmm; have LSn := zA (LS.out.go (below_drew (Below.refl _ w6))); clear LS; have LS := LSn; clear LSn; refine start_ (n := 15) (S := fun w' => w'.cell? ⟨g, 5, none⟩ = some (.slice A rs.length c) ∧ w'.cell? ⟨gx, 0, none⟩ = some (.int .i64 a) ∧ w'.cell? ⟨gx, 1, none⟩ = some (.slice Ax xs.length cx)) (ds := []) #[zf, zf, zf, zf, zf, zf, zf, zf, zf, zf, zf, zf, zf, zf, zf] (by kernel_rfl) rfl rfl ⟨(zK LS.out.box 5).trans rfl, (zK LS.out.bx 0).trans rfl, (zK LS.out.bx 1).trans rfl⟩ (fun hHeld => ?_); generalize w6.drew = w7 at LS hHeld ⊢; refine pure_ (i := 0) (N := some 130) (v := ?_) (a' := ?_) #[zt, zf, zf, zf, zf, zf, zf, zf, zf, zf, zf, zf, zf, zf, zf] rfl rfl (by kernel_rfl) (fun _ _ _ h => h) (Or.inl ⟨by rfl, ?_⟩) ?_ ?_; rotate_left
     · intro w'; go_simp; with_reducible rfl
     rotate_left
     · simp only [Act.put, List.setIfInBounds_toArray, List.set_cons_zero, List.set_cons_succ, i64_w, i32_w]; rfl
     refine pure_ (i := 1) (N := some 131) (v := ?_) (a' := ?_) #[zt, zt, zf, zf, zf, zf, zf, zf, zf, zf, zf, zf, zf, zf, zf] rfl rfl (by kernel_rfl) (fun _ _ _ h => h) (Or.inl ⟨by rfl, ?_⟩) ?_ ?_; rotate_left
     · intro w'; go_simp; with_reducible rfl
     rotate_left
     · simp only [Act.put, List.setIfInBounds_toArray, List.set_cons_zero, List.set_cons_succ, i64_w, i32_w]; rfl
     refine pure_ (i := 2) (N := some 132) (v := ?_) (a' := ?_) #[zt, zt, zt, zf, zf, zf, zf, zf, zf, zf, zf, zf, zf, zf, zf] rfl rfl (by kernel_rfl) (fun _ _ _ h => h) (Or.inl ⟨by rfl, ?_⟩) ?_ ?_; rotate_left
     · intro w'; go_simp; with_reducible rfl
     rotate_left
     · simp only [Act.put, List.setIfInBounds_toArray, List.set_cons_zero, List.set_cons_succ, i64_w, i32_w]; rfl
     refine pure_ (i := 3) (N := some 133) (v := ?_) (a' := ?_) #[zt, zt, zt, zt, zf, zf, zf, zf, zf, zf, zf, zf, zf, zf, zf] rfl rfl (by kernel_rfl) (fun _ _ _ h => h) (Or.inl ⟨by rfl, ?_⟩) ?_ ?_; rotate_left
     · intro w'; go_simp; with_reducible rfl
     rotate_left
     · simp only [Act.put, List.setIfInBounds_toArray, List.set_cons_zero, List.set_cons_succ, i64_w, i32_w]; rfl
     refine take_ (i := 4) (N := some 134) (v := ?_) (a' := ?_) #[zt, zt, zt, zt, zt, zf, zf, zf, zf, zf, zf, zf, zf, zf, zf] rfl rfl (by kernel_rfl) (fun _ _ _ h => h) (Or.inl ⟨by rfl, ?_⟩) hHeld ?_ ?_; rotate_left
     · rintro w' ⟨s0, s1, s2⟩; go_simp; with_reducible rfl
     rotate_left
     · simp only [Act.put, List.setIfInBounds_toArray, List.set_cons_zero, List.set_cons_succ, i64_w, i32_w]; rfl
     refine take_ (i := 5) (N := some 135) (v := ?_) (a' := ?_) #[zt, zt, zt, zt, zt, zt, zf, zf, zf, zf, zf, zf, zf, zf, zf] rfl rfl (by kernel_rfl) (fun _ _ _ h => h) (Or.inl ⟨by rfl, ?_⟩) hHeld ?_ ?_; rotate_left
     · rintro w' ⟨s0, s1, s2⟩; go_simp; with_reducible rfl
     rotate_left
     · simp only [Act.put, List.setIfInBounds_toArray, List.set_cons_zero, List.set_cons_succ, i64_w, i32_w]; rfl
     refine pure_ (i := 8) (N := some 138) (v := ?_) (a' := ?_) #[zt, zt, zt, zt, zt, zt, zf, zf, zt, zf, zf, zf, zf, zf, zf] rfl rfl (by kernel_rfl) (fun _ _ _ h => h) (Or.inl ⟨by rfl, ?_⟩) ?_ ?_; rotate_left
     · intro w'; go_simp; with_reducible rfl
     rotate_left
     · simp only [Act.put, List.setIfInBounds_toArray, List.set_cons_zero, List.set_cons_succ, i64_w, i32_w]; rfl
     refine pure_ (i := 9) (N := some 139) (v := ?_) (a' := ?_) #[zt, zt, zt, zt, zt, zt, zf, zf, zt, zt, zf, zf, zf, zf, zf] rfl rfl (by kernel_rfl) (fun _ _ _ h => h) (Or.inl ⟨by rfl, ?_⟩) ?_ ?_; rotate_left
     · intro w'; go_simp; with_reducible rfl
     rotate_left
     · simp only [Act.put, List.setIfInBounds_toArray, List.set_cons_zero, List.set_cons_succ, i64_w, i32_w]; rfl
     refine pure_ (i := 10) (N := some 140) (v := ?_) (a' := ?_) #[zt, zt, zt, zt, zt, zt, zf, zf, zt, zt, zt, zf, zf, zf, zf] rfl rfl (by kernel_rfl) (fun _ _ _ h => h) (Or.inl ⟨by rfl, ?_⟩) ?_ ?_; rotate_left
     · intro w'; go_simp; with_reducible rfl
     rotate_left
     · simp only [Act.put, List.setIfInBounds_toArray, List.set_cons_zero, List.set_cons_succ, i64_w, i32_w]; rfl
     refine pure_ (i := 11) (N := some 141) (v := ?_) (a' := ?_) #[zt, zt, zt, zt, zt, zt, zf, zf, zt, zt, zt, zt, zf, zf, zf] rfl rfl (by kernel_rfl) (fun _ _ _ h => h) (Or.inl ⟨by rfl, ?_⟩) ?_ ?_; rotate_left
     · intro w'; go_simp; with_reducible rfl
     rotate_left
     · simp only [Act.put, List.setIfInBounds_toArray, List.set_cons_zero, List.set_cons_succ, i64_w, i32_w]; rfl
     refine take_ (i := 12) (N := some 142) (v := ?_) (a' := ?_) #[zt, zt, zt, zt, zt, zt, zf, zf, zt, zt, zt, zt, zt, zf, zf] rfl rfl (by kernel_rfl) (fun _ _ _ h => h) (Or.inl ⟨by rfl, ?_⟩) hHeld ?_ ?_; rotate_left
     · rintro w' ⟨s0, s1, s2⟩; go_simp; with_reducible rfl
     rotate_left
     · simp only [Act.put, List.setIfInBounds_toArray, List.set_cons_zero, List.set_cons_succ, i64_w, i32_w]; rfl
     refine pure_ (i := 13) (N := some 143) (v := ?_) (a' := ?_) #[zt, zt, zt, zt, zt, zt, zf, zf, zt, zt, zt, zt, zt, zt, zf] rfl rfl (by kernel_rfl) (fun _ _ _ h => h) (Or.inl ⟨by rfl, ?_⟩) ?_ ?_; rotate_left
     · intro w'; go_simp; with_reducible rfl
     rotate_left
     · simp only [Act.put, List.setIfInBounds_toArray, List.set_cons_zero, List.set_cons_succ, i64_w, i32_w]; rfl
     refine one_ (i := 6) (N := some 136) #[zt, zt, zt, zt, zt, zt, zt, zf, zt, zt, zt, zt, zt, zt, zf] rfl rfl (by kernel_rfl) (by decide) (fun K hK => ?_); refine goes_ Try.func53 (by kernel_rfl) rfl #[.slice A rs.length c, .agg #[.int .i64 a, .slice Ax xs.length cx]] (by rfl) rfl rfl (by first | rfl | ((try simp only [List.map_toArray, List.map_cons, List.map_nil]); first | done | rfl)) ?_; refine (l1Put2_calls A c rs v.heap.size (fun k => k ≠ g ∧ k < B) ⟨a, xs⟩ Ax cx w7 LS.out.own LS.out.below.size (Kd.R_reads' LS.out.rx).2.2 (Kd.R_reads' LS.out.rx).2.1 H16.out HSM.out X4.out mm (by rw [MM.out, DU.out])).mono ?_; rintro e w8 ⟨⟨A8, c8, rfl⟩, hS8, hB8, hQ8⟩; refine ⟨_, rfl, ?_⟩; have LSn := zA (LS.out.put2 hS8 hB8 hQ8); clear LS hS8 hB8 hQ8; have LS := LSn; clear LSn; refine hK.out _ _ ⟨(zK LS.out.box 5).trans rfl, (zK LS.out.bx 0).trans rfl, (zK LS.out.bx 1).trans rfl⟩ (fun hHeld => ?_); clear hK K; refine norm_ (a' := ?_) ?_ ?_; rotate_left
     · show Act.put _ (some 136) _ = _; simp only [Act.put, List.setIfInBounds_toArray, List.set_cons_zero, List.set_cons_succ, i64_w, i32_w]; rfl
     refine pure_ (i := 7) (N := some 137) (v := ?_) (a' := ?_) #[zt, zt, zt, zt, zt, zt, zt, zt, zt, zt, zt, zt, zt, zt, zf] rfl rfl (by kernel_rfl) (fun _ _ _ h => h) (Or.inl ⟨by rfl, ?_⟩) ?_ ?_; rotate_left
     · intro w'; go_simp; with_reducible rfl
     rotate_left
     · simp only [Act.put, List.setIfInBounds_toArray, List.set_cons_zero, List.set_cons_succ, i64_w, i32_w]; rfl
     cases dup with
     | true =>
      have ML := zA (show mm = rs.length from MM.out); obtain rfl := ML.out; have LF := zA (HL.out.trans (lineF_dup HA.out H61.out RE.out DU.out)); have w1_ : ((rs.length : Int) == (rs.length : Int)) = true := beq_iff_eq.mpr rfl; refine pure_ (i := 14) (N := some 144) (v := ?_) (a' := ?_) #[zt, zt, zt, zt, zt, zt, zt, zt, zt, zt, zt, zt, zt, zt, zt] rfl rfl (by kernel_rfl) (fun _ _ _ h => h) (Or.inl ⟨by rfl, ?_⟩) ?_ ?_; rotate_left
      · intro w'; go_simp; with_reducible rfl
      rotate_left
      · simp only [Act.put, List.setIfInBounds_toArray, List.set_cons_zero, List.set_cons_succ, i64_w, i32_w]; rfl
      refine done_ (by kernel_rfl) ?_; clear hHeld; go_wp2_with (first | (go_at_call 51; (with_reducible refine (fault_calls v g s (q2 + 1) 0 n t A c rs 5 qi _ LS.out.toRs).mono ?_); rintro e wf ⟨rfl, hR_, hK_⟩; have SP := zA hR_; clear LS hR_ hK_)); go_ret; exact ⟨⟨false, rfl, by rw [LF.out]; simp⟩, lineP_bad LF.out (by omega) (by rw [← HQ.out]; exact SP.out)⟩
     | false =>
      have ML := zA (show mm = rs.length + 1 from MM.out); have m1_ : ((mm : Int) == (rs.length : Int)) = false := beq_eq_false_iff_ne.mpr (by have := ML.out; omega); have m2_ : ((mm : Int) != (rs.length : Int)) = true := bne_iff_ne.mpr (by have := ML.out; omega); have m3_ : decide (mm = rs.length) = false := decide_eq_false (by have := ML.out; omega); have m4_ : (mm = rs.length) = False := eq_false (by have := ML.out; omega); have m5_ : (mm == rs.length) = false := beq_eq_false_iff_ne.mpr (by have := ML.out; omega); refine pure_ (i := 14) (N := some 144) (v := ?_) (a' := ?_) #[zt, zt, zt, zt, zt, zt, zt, zt, zt, zt, zt, zt, zt, zt, zt] rfl rfl (by kernel_rfl) (fun _ _ _ h => h) (Or.inl ⟨by rfl, ?_⟩) ?_ ?_; rotate_left
      · intro w'; go_simp; with_reducible rfl
      rotate_left
      · simp only [Act.put, List.setIfInBounds_toArray, List.set_cons_zero, List.set_cons_succ, i64_w, i32_w]; rfl
      refine done_ (by kernel_rfl) ?_; clear hHeld; have x5 : w8.cell? ⟨g, 5, none⟩ = some (.slice A rs.length c) := (zK LS.out.box 5).trans rfl; by_cases h16 : rs.length = 16
      · have e1 : ((rs.length : Int) == 16) = true := beq_iff_eq.mpr (by omega); have e2 : ((rs.length : Int) != 16) = false := bne_eq_false_iff_eq.mpr (by omega); have e3 : decide (rs.length = 16) = true := decide_eq_true h16; have LF := zA (HL.out.trans (lineF_many HA.out H61.out RE.out DU.out h16))
        go_upto_region 22 with (fail)
        clear x5; go_wp2_with (first | (go_at_call 51; (with_reducible refine (fault_calls v g s (q2 + 1) 0 n t A c rs 6 qi _ LS.out.toRs).mono ?_); rintro e wf ⟨rfl, hR_, hK_⟩; have SP := zA hR_; clear LS hR_ hK_)); go_ret; exact ⟨⟨false, rfl, by rw [LF.out]; simp⟩, lineP_bad LF.out (by omega) (by rw [← HQ.out]; exact SP.out)⟩
      · have e1 : ((rs.length : Int) == 16) = false := beq_eq_false_iff_ne.mpr (by omega); have e2 : ((rs.length : Int) != 16) = true := bne_iff_ne.mpr (by omega); have e3 : decide (rs.length = 16) = false := decide_eq_false h16; have e4 : (rs.length = 16) = False := eq_false h16; have LF := zA (HL.out.trans (lineF_ok HA.out H61.out RE.out DU.out h16))
        go_upto_region 23 with (fail)
        clear x5 h16 e1 e2 e3 e4 m1_ m2_ m3_ m4_ m5_; have LSn := zA (LS.out.go (below_drew (Below.refl _ w8))); clear LS; have LS := LSn; clear LSn; refine start_ (n := 13) (S := fun w' => w'.cell? ⟨g, 5, none⟩ = some (.slice A rs.length c) ∧ w'.cell? ⟨gx, 0, none⟩ = some (.int .i64 a) ∧ w'.cell? ⟨gx, 1, none⟩ = some (.slice Ax xs.length cx)) (ds := [12]) #[zf, zf, zf, zf, zf, zf, zf, zf, zf, zf, zf, zf, zf] (by kernel_rfl) rfl rfl ⟨(zK LS.out.box 5).trans rfl, (zK LS.out.bx 0).trans rfl, (zK LS.out.bx 1).trans rfl⟩ (fun hHeld => ?_); generalize w8.drew = w9 at LS hHeld ⊢; refine pure_ (i := 0) (N := some 158) (v := ?_) (a' := ?_) #[zt, zf, zf, zf, zf, zf, zf, zf, zf, zf, zf, zf, zf] rfl rfl (by kernel_rfl) (fun _ _ _ h => h) (Or.inl ⟨by rfl, ?_⟩) ?_ ?_; rotate_left
        · intro w'; go_simp; with_reducible rfl
        rotate_left
        · simp only [Act.put, List.setIfInBounds_toArray, List.set_cons_zero, List.set_cons_succ, i64_w, i32_w]; rfl
        refine pure_ (i := 1) (N := some 159) (v := ?_) (a' := ?_) #[zt, zt, zf, zf, zf, zf, zf, zf, zf, zf, zf, zf, zf] rfl rfl (by kernel_rfl) (fun _ _ _ h => h) (Or.inl ⟨by rfl, ?_⟩) ?_ ?_; rotate_left
        · intro w'; go_simp; with_reducible rfl
        rotate_left
        · simp only [Act.put, List.setIfInBounds_toArray, List.set_cons_zero, List.set_cons_succ, i64_w, i32_w]; rfl
        refine pure_ (i := 2) (N := some 160) (v := ?_) (a' := ?_) #[zt, zt, zt, zf, zf, zf, zf, zf, zf, zf, zf, zf, zf] rfl rfl (by kernel_rfl) (fun _ _ _ h => h) (Or.inl ⟨by rfl, ?_⟩) ?_ ?_; rotate_left
        · intro w'; go_simp; with_reducible rfl
        rotate_left
        · simp only [Act.put, List.setIfInBounds_toArray, List.set_cons_zero, List.set_cons_succ, i64_w, i32_w]; rfl
        refine pure_ (i := 3) (N := some 161) (v := ?_) (a' := ?_) #[zt, zt, zt, zt, zf, zf, zf, zf, zf, zf, zf, zf, zf] rfl rfl (by kernel_rfl) (fun _ _ _ h => h) (Or.inl ⟨by rfl, ?_⟩) ?_ ?_; rotate_left
        · intro w'; go_simp; with_reducible rfl
        rotate_left
        · simp only [Act.put, List.setIfInBounds_toArray, List.set_cons_zero, List.set_cons_succ, i64_w, i32_w]; rfl
        refine pure_ (i := 4) (N := some 162) (v := ?_) (a' := ?_) #[zt, zt, zt, zt, zt, zf, zf, zf, zf, zf, zf, zf, zf] rfl rfl (by kernel_rfl) (fun _ _ _ h => h) (Or.inl ⟨by rfl, ?_⟩) ?_ ?_; rotate_left
        · intro w'; go_simp; with_reducible rfl
        rotate_left
        · simp only [Act.put, List.setIfInBounds_toArray, List.set_cons_zero, List.set_cons_succ, i64_w, i32_w]; rfl
        refine take_ (i := 5) (N := some 163) (v := ?_) (a' := ?_) #[zt, zt, zt, zt, zt, zt, zf, zf, zf, zf, zf, zf, zf] rfl rfl (by kernel_rfl) (fun _ _ _ h => h) (Or.inl ⟨by rfl, ?_⟩) hHeld ?_ ?_; rotate_left
        · rintro w' ⟨s0, s1, s2⟩; go_simp; with_reducible rfl
        rotate_left
        · simp only [Act.put, List.setIfInBounds_toArray, List.set_cons_zero, List.set_cons_succ, i64_w, i32_w]; rfl
        refine take_ (i := 6) (N := some 164) (v := ?_) (a' := ?_) #[zt, zt, zt, zt, zt, zt, zt, zf, zf, zf, zf, zf, zf] rfl rfl (by kernel_rfl) (fun _ _ _ h => h) (Or.inl ⟨by rfl, ?_⟩) hHeld ?_ ?_; rotate_left
        · rintro w' ⟨s0, s1, s2⟩; go_simp; with_reducible rfl
        rotate_left
        · simp only [Act.put, List.setIfInBounds_toArray, List.set_cons_zero, List.set_cons_succ, i64_w, i32_w]; rfl
        refine one_ (i := 7) (N := some 165) #[zt, zt, zt, zt, zt, zt, zt, zt, zf, zf, zf, zf, zf] rfl rfl (by kernel_rfl) (by decide) (fun K hK => ?_); refine value_ (w1 := ?_) (v := ?_) (by rfl) rfl ?_ ?_; rotate_left 2
        · go_simp; constructor
          · rfl
          · rfl
        refine hK.out _ _ ⟨(zK (zH LS.out.box _) 5).trans rfl, (zK (zH LS.out.bx _) 0).trans rfl, (zK (zH LS.out.bx _) 1).trans rfl⟩ (fun hHeld => ?_); clear hK K; refine norm_ (a' := ?_) ?_ ?_; rotate_left
        · show Act.put _ (some 165) _ = _; simp only [Act.put, List.setIfInBounds_toArray, List.set_cons_zero, List.set_cons_succ, i64_w, i32_w]; rfl
        refine one_ (i := 8) (N := some 166) #[zt, zt, zt, zt, zt, zt, zt, zt, zt, zf, zf, zf, zf] rfl rfl (by kernel_rfl) (by decide) (fun K hK => ?_); refine Kd.S_append_step k56 (w0 := v) v.heap.size (by rfl) (.tmp 163) (.tmp 165) 28 56 (.agg #[(.int .i64 0), (.slice none 0 0)]) 32 rfl Try.underlying28 info56 rfl (by decide) (by omega) (.slice A rs.length c) rs (⟨a, xs⟩ : S56) [.int .i64 a, .slice Ax xs.length cx] (fun k => k ≠ g) (fun k => B ≤ k ∧ k ≠ gx) rfl rfl (k56_mkM _ _ _ (⟨a, xs⟩ : S56) LS.out.rx) (fun k hk => ⟨by have := LS.out.gB; have := hk.1; omega, fun e => by have := ((Kd.S_R LS.out.own).1 k e.symm).2; have := hk.1; omega⟩) (fun k hk => by have := blk_lt LS.out.box; omega) (Kd.S_mono LS.out.own (fun k hk => ⟨hk.1, fun h2 => by have := hk.2; have := h2.1; omega⟩)) LS.out.below LS.out.below.size (by have := H16.out; omega) ?_; intro v10 w10 ho hb hg hat; obtain ⟨rs2, hrs2⟩ : ∃ l, l = rs ++ [(⟨a, xs⟩ : S56)] := ⟨_, rfl⟩
        rw [← hrs2] at ho LF; obtain ⟨A10, c10, ev10⟩ := Kd.S_slice ho; subst ev10; have FI := zA (LS.out.fin hb hg ho); have BG := zA (blk_grown LS.out.box hg (fun e => ((Kd.S_R LS.out.own).1 g e.symm).1 rfl)); have BX2 := zA (blk_grown LS.out.bx hg (fun e => by have := ((Kd.S_R LS.out.own).1 gx e.symm).2; have := LS.out.Bg; omega)); clear ho hb hg hat hrs2; refine hK.out _ _ ⟨(zK BG.out 5).trans rfl, (zK BX2.out 0).trans rfl, (zK BX2.out 1).trans rfl⟩ (fun hHeld => ?_); clear hK K; refine norm_ (a' := ?_) ?_ ?_; rotate_left
        · show Act.put _ (some 166) _ = _; simp only [Act.put, List.setIfInBounds_toArray, List.set_cons_zero, List.set_cons_succ, i64_w, i32_w]; rfl
        refine pure_ (i := 9) (N := some 167) (v := ?_) (a' := ?_) #[zt, zt, zt, zt, zt, zt, zt, zt, zt, zt, zf, zf, zf] rfl rfl (by kernel_rfl) (fun _ _ _ h => h) (Or.inl ⟨by rfl, ?_⟩) ?_ ?_; rotate_left
        · intro w'; go_simp; with_reducible rfl
        rotate_left
        · simp only [Act.put, List.setIfInBounds_toArray, List.set_cons_zero, List.set_cons_succ, i64_w, i32_w]; rfl
        refine pure_ (i := 10) (N := some 168) (v := ?_) (a' := ?_) #[zt, zt, zt, zt, zt, zt, zt, zt, zt, zt, zt, zf, zf] rfl rfl (by kernel_rfl) (fun _ _ _ h => h) (Or.inl ⟨by rfl, ?_⟩) ?_ ?_; rotate_left
        · intro w'; go_simp; with_reducible rfl
        rotate_left
        · simp only [Act.put, List.setIfInBounds_toArray, List.set_cons_zero, List.set_cons_succ, i64_w, i32_w]; rfl
        refine pure_ (i := 11) (N := some 169) (v := ?_) (a' := ?_) #[zt, zt, zt, zt, zt, zt, zt, zt, zt, zt, zt, zt, zf] rfl rfl (by kernel_rfl) (fun _ _ _ h => h) (Or.inl ⟨by rfl, ?_⟩) ?_ ?_; rotate_left
        · intro w'; go_simp; with_reducible rfl
        rotate_left
        · simp only [Act.put, List.setIfInBounds_toArray, List.set_cons_zero, List.set_cons_succ, i64_w, i32_w]; rfl
        refine last_ (i := 12) (N := none) #[zt, zt, zt, zt, zt, zt, zt, zt, zt, zt, zt, zt, zt] rfl rfl (by kernel_rfl) (by decide) (fun K hK => ?_); have y5 : w10.cell? ⟨g, 5, none⟩ = some (.slice A rs.length c) := (zK BG.out 5).trans rfl; have z5 := zL BG.out 5; refine skip_ (w1 := ?_) (by rfl) rfl ?_ ?_; rotate_left
        · go_simp; rfl
        refine hK.out _ _ ?_; clear hK K y5 z5; refine done_ (by kernel_rfl) ?_; go_wp2; go_ret; exact ⟨⟨true, rfl, by rw [LF.out]; simp⟩, ⟨fun _ => ⟨A10, c10, by rw [LF.out]; have h_ := FI.out; rw [show q2 + 1 = ((qq + 1 : Nat) : Int) by have := HQ3.out; omega] at h_; exact h_⟩, fun e => absurd (by rw [LF.out]) e⟩⟩
    | false =>
     have NB := zA (show ¬ (qq < s.size ∧ bt s qq = 10) from isB_false.1 (by rw [← HQ3.out]; exact hb)); obtain ⟨Ax, cx, ev_⟩ := Kd.R_slice LS.out.rx; subst ev_; by_cases h4 : xs.length = 4
     · have e1 : ((xs.length : Int) == 4) = true := beq_iff_eq.mpr (by omega); have e2 : ((xs.length : Int) != 4) = false := bne_eq_false_iff_eq.mpr (by omega); have e3 : decide (xs.length = 4) = true := decide_eq_true h4
       go_upto_region 10 with (first | (go_at_call 50; (with_reducible refine (is_no v g s q2 0 n t A c rs 10 hb _ LS.out.toRs h20 h2s hs).mono ?_); rintro e w6 ⟨rfl, hR_, hK_⟩; have LSn := zA (LS.out.next hR_ hK_); clear LS hR_ hK_; have LS := LSn; clear LSn))
       have xx : w6.cell? ⟨gx, 1, none⟩ = some (.slice Ax xs.length cx) := (zK LS.out.bx 1).trans rfl
       go_upto_region 11 with (fail)
       clear xx; have LF := zA (HL.out.trans (lineF_bad HA.out H61.out (RF.out.trans (rightF_four NB.out h4)) (by omega))); have x1 : w6.cell? ⟨g, 1, none⟩ = some (.int .i64 q2) := (zK LS.out.box 1).trans rfl; go_wp2_with (first | (go_at_call 51; (with_reducible refine (fault_calls v g s q2 0 n t A c rs 4 q2 _ LS.out.toRs).mono ?_); rintro e wf ⟨rfl, hR_, hK_⟩; clear x1; have SP := zA hR_; clear LS hR_ hK_)); go_ret; exact ⟨⟨false, rfl, by rw [LF.out]; simp⟩, lineP_bad LF.out (by omega) (by rw [← HQ3.out]; exact SP.out)⟩
     · have e1 : ((xs.length : Int) == 4) = false := beq_eq_false_iff_ne.mpr (by omega); have e2 : ((xs.length : Int) != 4) = true := bne_iff_ne.mpr (by omega); have e3 : decide (xs.length = 4) = false := decide_eq_false h4; have e9 : (xs.length = 4) = False := eq_false h4; have X4 := zA h4; clear h4
       go_upto_region 10 with (first | (go_at_call 50; (with_reducible refine (is_no v g s q2 0 n t A c rs 10 hb _ LS.out.toRs h20 h2s hs).mono ?_); rintro e w6 ⟨rfl, hR_, hK_⟩; have LSn := zA (LS.out.next hR_ hK_); clear LS hR_ hK_; have LS := LSn; clear LSn))
       have xx : w6.cell? ⟨gx, 1, none⟩ = some (.slice Ax xs.length cx) := (zK LS.out.bx 1).trans rfl
       go_upto_region 12 with (fail)
       clear xx e1 e2 e3 e9; have x0 : w6.cell? ⟨g, 0, none⟩ = some (.string s) := (zK LS.out.box 0).trans rfl; have x1 : w6.cell? ⟨g, 1, none⟩ = some (.int .i64 q2) := (zK LS.out.box 1).trans rfl; by_cases h5 : q2 = (s.size : Int)
       · have f1 : (q2 == (s.size : Int)) = true := beq_iff_eq.mpr h5; have f2 : (q2 != (s.size : Int)) = false := bne_eq_false_iff_eq.mpr h5; have S5 := zA (show s.size ≤ qq by have := HQ3.out; omega); clear h5
         go_quiet (fail)
         go_upto_region 13 with (fail)
         have LSn := zA (LS.out.go (zC (Below.refl _ _) nq)); generalize w6.drewN nq = w7 at LSn ⊢; clear LS x0 x1; have LS := LSn; clear LSn; have LF := zA (HL.out.trans (lineF_bad HA.out H61.out (RF.out.trans (rightF_stop NB.out X4.out S5.out)) (by omega))); have x1 : w7.cell? ⟨g, 1, none⟩ = some (.int .i64 q2) := (zK LS.out.box 1).trans rfl; go_wp2_with (first | (go_at_call 51; (with_reducible refine (fault_calls v g s q2 0 n t A c rs 3 q2 _ LS.out.toRs).mono ?_); rintro e wf ⟨rfl, hR_, hK_⟩; clear x1; have SP := zA hR_; clear LS hR_ hK_)); go_ret; exact ⟨⟨false, rfl, by rw [LF.out]; simp⟩, lineP_bad LF.out (by omega) (by rw [← HQ3.out]; exact SP.out)⟩
       · have f1 : (q2 == (s.size : Int)) = false := beq_eq_false_iff_ne.mpr h5; have f2 : (q2 != (s.size : Int)) = true := bne_iff_ne.mpr h5; have S5 := zA (show qq < s.size by have := HQ3.out; omega); have p7 : 0 ≤ q2 := h20; have q7 : q2 < (s.size : Int) := by omega
         clear h5
         go_quiet (fail)
         go_upto_region 14 with (fail)
         have LSn := zA (LS.out.go (zC (Below.refl _ _) nq)); generalize w6.drewN nq = w7 at LSn ⊢; clear LS x0 x1 f1 f2; have LS := LSn; clear LSn; have HBT2 := zA (bt_range s q2); have CB := fun (W : World) => spec_l2Symbol.calls 20 n t (bt s q2) (match symN n t (bt s q2) with | some x => x | none => 0) (match symN n t (bt s q2) with | some x => true | none => false) W (by rw [l2Sym_eq HN.out (by have := HT.out; omega) HBT2.out.1 HBT2.out.2]; cases symN n t (bt s q2) <;> rfl)
         have e3 : wrap64 (q2 + 1) = q2 + 1 := by unfold wrap64; omega
         have hx7 := bt_at s q2; have d0 : decide ((0 : Int) ≤ q2) = true := decide_eq_true p7; have d1 : decide (q2 < (s.size : Int)) = true := decide_eq_true q7; replace p7 := eq_true p7; replace q7 := eq_true q7; have x0 : w7.cell? ⟨g, 0, none⟩ = some (.string s) := (zK LS.out.box 0).trans rfl; have x1 : w7.cell? ⟨g, 1, none⟩ = some (.int .i64 q2) := (zK LS.out.box 1).trans rfl; have x3 : w7.cell? ⟨g, 3, none⟩ = some (.int .i64 n) := (zK LS.out.box 3).trans rfl; have x4 : w7.cell? ⟨g, 4, none⟩ = some (.int .i64 t) := (zK LS.out.box 4).trans rfl; cases hy : symN n t (bt s q2) with
         | none =>
          have SN := zA (show symN n t (bt s qq) = none by rw [← HQ3.out]; exact hy); rw [hy] at CB; clear hy
          go_quiet (first | (go_at_call 52; (with_reducible refine (CB _).mono ?_); rintro e w' ⟨rfl, ⟨nd, rfl⟩⟩; (try first | exact ⟨rfl, _, World.drewN_drewN _ _ _⟩ | exact ⟨rfl, _, Eq.trans (World.drewN_drewN _ _ _) (congrArg (World.drewN _) (Nat.add_assoc _ _ _))⟩)))
          clear x0 x1 x3 x4 CB hx7 d0 d1 p7 q7; have LSn := zA (LS.out.go (zC (Below.refl _ _) nq)); generalize w7.drewN nq = w8 at LSn ⊢; clear LS; have LS := LSn; clear LSn
          go_upto_region 16 with (fail)
          have LF := zA (HL.out.trans (lineF_bad HA.out H61.out (RF.out.trans (rightF_no NB.out X4.out S5.out SN.out)) (by omega))); have x1 : w8.cell? ⟨g, 1, none⟩ = some (.int .i64 q2) := (zK LS.out.box 1).trans rfl; go_wp2_with (first | (go_at_call 51; (with_reducible refine (fault_calls v g s q2 0 n t A c rs 3 q2 _ LS.out.toRs).mono ?_); rintro e wf ⟨rfl, hR_, hK_⟩; clear x1; have SP := zA hR_; clear LS hR_ hK_)); go_ret; exact ⟨⟨false, rfl, by rw [LF.out]; simp⟩, lineP_bad LF.out (by omega) (by rw [← HQ3.out]; exact SP.out)⟩
         | some y =>
          have SN := zA (show symN n t (bt s qq) = some y by rw [← HQ3.out]; exact hy); rw [hy] at CB; clear hy
          go_quiet (first | (go_at_call 52; (with_reducible refine (CB _).mono ?_); rintro e w' ⟨rfl, ⟨nd, rfl⟩⟩; (try first | exact ⟨rfl, _, World.drewN_drewN _ _ _⟩ | exact ⟨rfl, _, Eq.trans (World.drewN_drewN _ _ _) (congrArg (World.drewN _) (Nat.add_assoc _ _ _))⟩)))
          clear x0 x1 x3 x4 CB hx7 d0 d1 p7 q7; have LSn := zA (LS.out.go (zC (Below.refl _ _) nq)); generalize w7.drewN nq = w8 at LSn ⊢; clear LS; have LS := LSn; clear LSn; have RN := zA (RF.out.trans (rightF_on NB.out X4.out S5.out SN.out)); obtain ⟨ys, hys⟩ : ∃ ys, ys = xs ++ [y] := ⟨_, rfl⟩
          have YS := zA hys; clear hys; have xx0 : w8.cell? ⟨gx, 1, none⟩ = some (.slice Ax xs.length cx) := (zK LS.out.bx 1).trans rfl
          go_upto_region 17 with (fail)
          go_upto_region 18 with (first | ((with_reducible refine gate_builtin (b := .append) (xs := #[.tmp 118, .tmp 120]) rfl ?_); at_builtin; refine Kd.R_append (Kd.int .i64) (w0 := v) v.heap.size rfl (.tmp 118) (.tmp 120) 52 3 (.int .i64 0) 8 rfl Try.underlying52 info3 rfl (by decide) (by omega) (.slice Ax xs.length cx) xs y [.int .i64 y] (fun k => B ≤ k ∧ k ≠ gx) (fun _ => False) rfl rfl ?aP (fun _ hk => hk.elim) ?aF ?aO ?aB ?aS ?aL ?_; (case aP => exact rfl); (case aB => exact LS.out.below); (case aF => exact (fun k hk => by have := blk_lt LS.out.bx; have := LS.out.Bg; exact ⟨by omega, by omega⟩)); (case aO => exact LS.out.rx); (case aS => exact LS.out.below.size); (case aL => have := FB.out; omega); intro v1 w9 ho hb hg hat; rw [← YS.out] at ho; obtain ⟨A9, c9, ev9⟩ := Kd.R_slice ho; subst ev9; have HO := zA ho; have HB9 := zA hb; have HG := zA hg; clear ho hb hg hat xx0; have LSB := zA (blk_grown LS.out.bx HG.out (fun e => (LS.out.rx.1 gx e.symm).2 rfl)); have xx : w9.cell? ⟨gx, 1, none⟩ = some (.slice Ax xs.length cx) := (zK LSB.out 1).trans rfl; have fx := zL LSB.out 1))
          clear xx fx LSB; have LSn := zA (LS.out.put HB9.out HG.out HO.out); generalize w9.setCell ⟨gx, 1, none⟩ (.slice A9 ys.length c9) = w10 at LSn ⊢; rw [← YS.out] at RN; have YL := zA (show ys.length = xs.length + 1 by rw [YS.out, List.length_append]; rfl); clear LS HB9 HG HO; have LS := LSn; clear LSn; have x1 : w10.cell? ⟨g, 1, none⟩ = some (.int .i64 q2) := (zK LS.out.box 1).trans rfl; have f1 := zL LS.out.box 1; go_wp2; have LSn := zA (LS.out.set1 (q2 + 1)); generalize w10.setCell ⟨g, 1, none⟩ (.int .i64 (q2 + 1)) = w11 at LSn ⊢
          go_roundg m
          case measure => omega
          case rel => exact ⟨qq + 1, m, _, _, _, Nat.le_refl _, ⟨by have := HQ3.out; omega⟩, RN, ⟨by have := FB.out; have := X4.out; omega, by have := YL.out; have := FB.out; omega, by have := S5.out; omega⟩, LSn⟩
end Go.Proofs.Ytodacikpbcgndaa.P
