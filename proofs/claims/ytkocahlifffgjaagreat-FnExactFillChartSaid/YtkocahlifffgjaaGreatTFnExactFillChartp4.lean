/- A part of the proofs of some laws of this seat (words of the print and texts of this session, without what these laws do not use). -/
import Derived.Test.YtkocahlifffgjaaGreatTFnExactFillChartp1
import Derived.Test.YtkocahlifffgjaaGreatTFnExactFillChartp2
import Derived.Test.YtkocahlifffgjaaGreatTFnExactFillChartp3
import Derived.Maps.OwnOps
namespace Go.Proofs.YtkocahlifffgjaaGreat.P
open Go.RowKit Go.Proofs.YtkocahlifffgjaaGreatW.PrintWords Go.Proofs.YtkocahlifffgjaaGreatW.PrintLast Go.Proofs.YtkocahlifffgjaaGreatW.PrintMore
attribute [local go_sem] max2_int min2_int max_two min_two max_three min_three max_four min_four
set_option linter.unusedVariables false
set_option linter.unusedSimpArgs false
mutual
def spec_l6Pairs.l0 : Nat → List Int → List (List Int) → List (List Int) → Int → Int → Int → Int → List (List Int) → List (List Int) → List Int → List (List Int) → Option ((List (List Int)))
 | 0, _, _, _, _, _, _, _, _, _, _, _ => none
 | k + 1, x3, x4, g4, eb, dX, aV, aN, aJ, aQ, aX, aW => if dX < eb then (if 0 ≤ dX then (if dX < (g4.length : Int) then ((spec_l1Own.f (rd_L1 g4 dX)).bind fun cB => ((spec_l5Insert.f k x4 cB).bind fun eS => (spec_l6Pairs.l0 k x3 eS g4 eb (wrap64 (dX + 1)) aV aN aJ aQ aX aW))) else (none)) else (none)) else (spec_l6Pairs.l1 k x3 x4 aJ (aJ.length : Int) 0)
def spec_l6Pairs.l1 : Nat → List Int → List (List Int) → List (List Int) → Int → Int → Option ((List (List Int)))
 | 0, _, _, _, _, _ => none
 | k + 1, x3, x4, il, jg, h6 => if h6 < jg then (if 0 ≤ h6 then (if h6 < (il.length : Int) then (if 2 < ((rd_L1 il h6).length : Int) then (if (rd (rd_L1 il h6) 2) ≥ 0 then ((spec_l1Has.f k x3 (rd (rd_L1 il h6) 2)).bind fun jW => (spec_l6Pairs.j2 k x3 x4 (rd_L1 il h6) il jg h6 jW)) else (spec_l6Pairs.j2 k x3 x4 (rd_L1 il h6) il jg h6 false)) else (none)) else (none)) else (none)) else (some x4)
def spec_l6Pairs.j2 : Nat → List Int → List (List Int) → List Int → List (List Int) → Int → Int → Bool → Option ((List (List Int)))
 | 0, _, _, _, _, _, _, _ => none
 | k + 1, x3, x4, x8, il, jg, h6, x40 => if x40 = true then (if 0 < (x8.length : Int) then (if 1 < (x8.length : Int) then ((spec_l5Insert.f k x4 (([rd x8 0, rd x8 1] : List Int))).bind fun lZ => (spec_l6Pairs.j3 k x3 lZ x8 il jg h6)) else (none)) else (none)) else (spec_l6Pairs.j3 k x3 x4 x8 il jg h6)
def spec_l6Pairs.j3 : Nat → List Int → List (List Int) → List Int → List (List Int) → Int → Int → Option ((List (List Int)))
 | 0, _, _, _, _, _, _ => none
 | k + 1, x3, x4, x8, il, jg, h6 => if 1 < (x8.length : Int) then (if (rd x8 1) ≥ 0 then ((spec_l1Has.f k x3 (rd x8 1)).bind fun p0 => (if p0 = true then (if 0 < (x8.length : Int) then (if 2 < (x8.length : Int) then ((spec_l5Insert.f k x4 (([rd x8 0, rd x8 2] : List Int))).bind fun l3 => (spec_l6Pairs.l1 k x3 l3 il jg (wrap64 (h6 + 1)))) else (none)) else (none)) else (spec_l6Pairs.l1 k x3 x4 il jg (wrap64 (h6 + 1))))) else (spec_l6Pairs.l1 k x3 x4 il jg (wrap64 (h6 + 1)))) else (none)
end
def spec_l6Pairs.f (k : Nat) (af : Int) (aj : Int) (ab : List (List Int)) (ae : List (List Int)) (ai : List Int) (ag : List (List Int)) : Option ((List (List Int))) := (spec_l5Null.f k af aj ab ae ai ag).bind fun aE => (spec_l6Pairs.l0 k aE ([] : List (List Int)) ae (ae.length : Int) 0 af aj ab ae ai ag)
def spec_l6Pairs.T12 : Bool × List (List Nat × List Nat) := (true, [([], []), ([], []), ([1], [1]), ([2], [2]), ([], []), ([4], [4]), ([5], [5]), ([3, 6], [3, 6]), ([0, 7], [0, 7]), ([8, 8, 0, 1, 2, 3, 4, 5, 6, 7, 8], [0, 8])])
def spec_l6Pairs.B12 : List Nat := [0, 0, 2, 6, 0, 16, 48, 126, 255, 511]
theorem spec_l6Pairs.tab12 : rtab .any (opsOf Tryz.f47 12) = spec_l6Pairs.T12 := by kernel_rfl
theorem spec_l6Pairs.bits12 : waitsOk spec_l6Pairs.T12.2 spec_l6Pairs.B12 = true := by kernel_rfl
def spec_l6Pairs.T14 : Bool × List (List Nat × List Nat) := (true, [([], []), ([], []), ([1], [1]), ([2], [2]), ([], []), ([4], [4]), ([5], [5]), ([3, 6], [3, 6]), ([0, 7], [0, 7]), ([8, 8, 0, 1, 2, 3, 4, 5, 6, 7, 8], [0, 8])])
def spec_l6Pairs.B14 : List Nat := [0, 0, 2, 6, 0, 16, 48, 126, 255, 511]
theorem spec_l6Pairs.tab14 : rtab .any (opsOf Tryz.f47 14) = spec_l6Pairs.T14 := by kernel_rfl
theorem spec_l6Pairs.bits14 : waitsOk spec_l6Pairs.T14.2 spec_l6Pairs.B14 = true := by kernel_rfl
set_option maxHeartbeats 8000000 in
set_option maxRecDepth 100000 in
theorem spec_l6Pairs.calls (k : Nat) (af : Int) (aj : Int) (az : Option Addr) (aq : Nat) (ab : List (List Int)) (ay : Option Addr) (av : Nat) (ae : List (List Int)) (ar : Option Addr) (au : Nat) (ai : List Int) (aw : Option Addr) (ax : Nat) (ag : List (List Int)) (r : List (List Int)) (w : World) (bD : Kd.C (Kd.slice 3 (Kd.int .i64)) w az ab.length ab) (bE : ab.length ≤ aq) (bF : Kd.C (Kd.slice 3 (Kd.int .i64)) w ay ae.length ae) (bG : ae.length ≤ av) (bH : Kd.C (Kd.int .i64) w ar ai.length ai) (bI : ai.length ≤ au) (bJ : Kd.C (Kd.slice 3 (Kd.int .i64)) w aw ag.length ag) (bK : ag.length ≤ ax) (h : spec_l6Pairs.f k af aj ab ae ai ag = some r) :
 Calls Tryz.prog 47 #[.agg #[.int .i64 af, .int .i64 aj, .slice az ab.length aq, .slice ay ae.length av, .slice ar ai.length au, .slice aw ag.length ax]] w fun e w' => ∃ eV : Value, e = .returned (eV) ∧ Kd.V (Kd.slice 3 (Kd.int .i64)) 23 w' w.heap.size (fun k_ => (w.heap.size ≤ k_)) eV r ∧ Below w.heap.size w w' := by
 have hu32 := Tryz.underlying32; have bq := zA bD; have bL := zA bE; clear bD bE; have bu := zA bF; have bO := zA bG; clear bF bG; have bP := zA bH; have bQ := zA bI; clear bH bI; have bR := zA bJ; have bV := zA bK; clear bJ bK; have HB := zA (Below.refl w.heap.size w); have H : ((spec_l5Null.f k af aj ab ae ai ag).bind fun aE => (spec_l6Pairs.l0 k aE ([] : List (List Int)) ae (ae.length : Int) 0 af aj ab ae ai ag)) = some r := h; clear h; replace H := Option.bind_eq_some_iff.mp H; obtain ⟨aE, me, H⟩ := H; have A2 := zA me; clear me; have H' := zA H; clear H; go_enter Tryz.func47, Tryz.ntmps47; go_wp2_with (first | ((with_reducible refine gate_dst (N := 1) rfl ?_); refine box_event ?hg (N := 1) ?hd (cs := #[.int .i64 af, .int .i64 aj, .slice az ab.length aq, .slice ay ae.length av, .slice ar ai.length au, .slice aw ag.length ax]) (t := 32) ?hr ?_; (case hd => rfl); (case hg => rfl); (case hr => first | (go_simp; done) | (go_simp; rfl)); intro ad hg w3 hbox hb; have aa := zA (hbox); have b0 := zA ((by rw [hg]; exact (zF (zz0u HB)) : w.heap.size ≤ ad)); have ac := zA ((by rw [hg]; exact (zF (zz0u HB)) : w.heap.size ≤ ad)); replace HB := zA (zG (zz0u HB) hb); clear hb hbox hg; obtain ⟨ee, ef, eg, eh, ei, ej⟩ := zk6 aa.out; have mw := zL aa.out 5) | ((with_reducible refine gate_callee (f := 67) rfl ?_); refine goesL_ (some 10) rfl rfl Tryz.func67 zz1h rfl #[.agg #[.int .i64 af, .int .i64 aj, .slice az ab.length aq, .slice ay ae.length av, .slice ar ai.length au, .slice aw ag.length ax]] rfl zz0h ?_; (with_reducible refine (spec_l5Null.calls k af aj _ _ ab _ _ ae _ _ ai _ _ ag aE _ ?al ?am ?aK ?aM ?bl ?bm ?bn ?bo A2.out).mono ?_); (case al => exact (zz0x bq HB)); (case am => exact bL.out); (case aK => exact (zz0x bu HB)); (case aM => exact bO.out); (case bl => exact (zz0x bP HB)); (case bm => exact bQ.out); (case bn => exact (zz0x bR HB)); (case bo => exact bV.out); rintro e w5 ⟨e0, rfl, cd, hb⟩; refine ⟨_, rfl, ?_⟩; have dD := zA (Kd.R_lower (Kd.R_newM (M := fun k_ => (w.heap.size ≤ k_)) cd (zF (zz0l HB ac)) (fun k_ h_ => h_)) (zF (zz0l HB ac))); replace aa := zA (zMp aa.out hb); replace HB := zA (zG (zz0l HB ac) hb); (try clear hb); (try clear hb2); (try clear hk); (try clear hi); (try clear cd); obtain ⟨f6, f7, gL, gM, gN, gO⟩ := zk6 aa.out; have hfz6_5 := zL aa.out 5)); go_loopg [4, 14] k (fun kq v4 nY w' => ∃ (b8 : List (List Int)) (ct : Int), nY = .int .i64 ct ∧ Aside0 (spec_l6Pairs.l0 kq aE b8 ae (ae.length : Int) ct af aj ab ae ai ag = some r) ∧ Aside0 (kq ≤ k) ∧ Aside0 (Kd.R (Kd.int .i64) 3 w' w.heap.size (fun k_ => (w.heap.size ≤ k_)) e0 aE) ∧ Aside0 (Kd.V (Kd.slice 3 (Kd.int .i64)) 23 w' w.heap.size (fun k_ => (w.heap.size ≤ k_) ∧ some k_ ≠ (e0 : Value).ownBlock ∧ k_ ≠ ad) v4 b8) ∧ Aside0 (w'.heap[ad]? = some (.cells #[.int .i64 af, .int .i64 aj, (.slice az ab.length aq), (.slice ay ae.length av), (.slice ar ai.length au), (.slice aw ag.length ax)] 32 (0, 0))) ∧ Aside0 (Below w.heap.size w w'))
 case atStart => exact ⟨(([] : List (List Int))), (0), zz12, H', ⟨Nat.le_refl _⟩, ⟨zz0o dD⟩, ⟨Kd.S_V (by first | exact Kd.S_nil _ _ _ 0 _ | exact Kd.S_nil _ _ _ _ _ | exact Kd.N_nil _ _ _ _ _ | exact Kd.V_nil _ _ _ _ _ | exact Kd.Q_nil _ _ _ _ _ | exact Kd.R_nil _ _ _ _ _)⟩, ⟨zz0w aa⟩, ⟨zz0l HB ac⟩⟩
 case round =>
  clear H'; (try clear p2); (try clear c4); (try clear c6); (try clear ee); (try clear ef); (try clear eg); (try clear eh); (try clear ei); (try clear ej); (try clear f6); (try clear f7); (try clear gL); (try clear gM); (try clear gN); (try clear gO); obtain ⟨b8, ct, rfl, HA, bw, aA, be, aa, HB⟩ := hrel; cases gk with
  | zero => exact absurd HA.out (by simp [spec_l6Pairs.l0])
  | succ k1 =>
   have H := HA.out; clear HA; simp only [spec_l6Pairs.l0] at H; by_cases c7 : ct < (ae.length : Int)
   · rw [if_pos c7] at H; have dF := decide_eq_true c7; clear c7; replace H := zIn H; obtain ⟨c8, H⟩ := H; have d3 : decide (0 ≤ ct) = true := decide_eq_true c8; clear c8; replace H := zIn H; obtain ⟨c9, H⟩ := H; have eW : decide (ct < (ae.length : Int)) = true := decide_eq_true c9; clear c9; replace H := Option.bind_eq_some_iff.mp H; obtain ⟨cB, gy, H⟩ := H; have l4 := zA gy; clear gy; replace H := Option.bind_eq_some_iff.mp H; obtain ⟨eS, rf, H⟩ := H; have A11 := zA rf; clear rf; have H' := zA H; clear H; have cb : 0 ≤ (ct : Int) := of_decide_eq_true zz1g; have cc : ct < (ae.length : Int) := of_decide_eq_true zz1g; obtain ⟨dT, eC, eD, dH, aD, bs, bt⟩ := at_L1 bu.out ct cb cc; cases dH; replace aD := (HB.out.cell (World.block_lt_of_cell? w _ aD)).trans aD; have bX := zA bt; have cF := zA bs; clear bt bs; replace cb := eq_true cb; replace cc := eq_true cc; go_wp2_with (first | ((with_reducible refine gate_callee (f := 66) rfl ?_); refine goesL_ (some 20) rfl rfl Tryz.func66 zz1h rfl #[.slice eC (rd_L1 ae ct).length eD] rfl zz0h ?_; (with_reducible refine (spec_l1Own.calls _ _ (rd_L1 ae ct) cB _ ?al ?am l4.out).mono ?_); (case al => exact (zz0x bX HB)); (case am => exact cF.out); rintro e kf ⟨rg, rfl, cd, hb⟩; refine ⟨_, rfl, ?_⟩; replace be := zA (Kd.V_elder' (zz0s be) (Kd.R_base cd) hb); have d9 := zA (Kd.R_lower (Kd.R_new' (Kd.R_newM (M := fun k_ => (w.heap.size ≤ k_)) cd (zF (zz0l HB ac)) (fun k_ h_ => h_)) (Kd.R_lt (zz0y aA))) (zF (zz0l HB ac))); replace aA := zA (Kd.R_elder' (zz0y aA) (Kd.R_base cd) hb); replace aa := zA (zMp aa.out hb); replace HB := zA (zG (zz0l HB ac) hb); (try clear hb); (try clear hb2); (try clear hk); (try clear hi); (try clear cd); obtain ⟨l5, kA, m8⟩ := Kd.V_slice be.out; subst m8; obtain ⟨ip, iq, kj⟩ := Kd.R_slice d9.out; subst kj) | ((with_reducible refine gate_callee (f := 68) rfl ?_); refine goesL_ (some 21) rfl rfl Tryz.func68 zz1h rfl #[.slice l5 b8.length kA, .slice ip cB.length iq] rfl zz0h ?_; (with_reducible refine (spec_l5Insert.calls k1 (fun k_ => (((w.heap.size ≤ k_) ∧ (some k_ ≠ (e0 : Value).ownBlock ∧ k_ ≠ ad)) ∧ some k_ ≠ (.slice ip cB.length iq : Value).ownBlock)) _ _ b8 (fun k_ => some k_ = (.slice ip cB.length iq : Value).ownBlock) _ _ cB eS _ ?al ?am A11.out).mono ?_); (case al => exact be.out); (case am => exact Kd.R_V (Kd.R_tight rfl (Kd.R_types (d9.out) aa.out zz1k))); rintro e rI ⟨nN, rfl, cd, hb⟩; refine ⟨_, rfl, ?_⟩; replace be := zA (Kd.V_below (zz0s be) hb); have fJ := zA (Kd.V_lower (Kd.V_mono (ok' := fun k_ => (w.heap.size ≤ k_) ∧ some k_ ≠ (e0 : Value).ownBlock ∧ k_ ≠ ad) cd (fun k_ hk_ => ⟨Or.elim hk_ (fun hs_ => Or.elim hs_ (fun hs_ => hs_.1.1) (fun hs_ => ((Kd.R_types (d9.out) aa.out zz1k).1 k_ hs_.symm).1.1.1)) (fun hn_ => (Nat.le_trans (zF (zz0l HB ac)) hn_)), Or.elim hk_ (fun hs_ => Or.elim hs_ (fun hs_ => hs_.1.2.1) (fun hs_ => ((Kd.R_types (d9.out) aa.out zz1k).1 k_ hs_.symm).1.2)) (fun hn_ => (Kd.fresh' (Kd.R_lt (zz0y aA)) k_ hn_)), Or.elim hk_ (fun hs_ => Or.elim hs_ (fun hs_ => hs_.1.2.2) (fun hs_ => ((Kd.R_types (d9.out) aa.out zz1k).1 k_ hs_.symm).2)) (fun hn_ => (Kd.freshB (g := ad) (o := .cells #[.int .i64 af, .int .i64 aj, .slice az ab.length aq, .slice (some dT) ae.length av, .slice ar ai.length au, .slice aw ag.length ax] 32 (0, 0)) (zz0w aa) k_ hn_))⟩)) (zF (zz0l HB ac))); replace aA := zA (Kd.R_below (zz0y aA) hb); replace d9 := zA (Kd.R_below (zz0y d9) hb); replace aa := zA (zMp aa.out hb); replace HB := zA (zG (zz0l HB ac) hb); (try clear hb); (try clear hb2); (try clear hk); (try clear hi); (try clear cd)))
     go_roundg k1
     case measure => have := bw.out; omega
     case rel => exact ⟨(eS), (wrap64 (ct + 1)), zz12, H', ⟨zz1b bw⟩, ⟨zz0o aA⟩, ⟨zz0s fJ⟩, ⟨zz0w aa⟩, ⟨zz0l HB ac⟩⟩
   · rw [if_neg c7] at H; have dF := decide_eq_false c7; clear c7; have H' := zA H; clear H; obtain ⟨g6, g7, g8, g9, ha, hc⟩ := zk6 aa.out; go_wp2; go_loopg [4, 26] k1 (fun kq v4 r7 w' => ∃ (cR : List (List Int)) (aG : Int), r7 = .int .i64 aG ∧ Aside0 (spec_l6Pairs.l1 kq aE cR ab (ab.length : Int) aG = some r) ∧ Aside0 (kq ≤ k1) ∧ Aside0 (Kd.R (Kd.int .i64) 3 w' w.heap.size (fun k_ => (w.heap.size ≤ k_)) e0 aE) ∧ Aside0 (Kd.V (Kd.slice 3 (Kd.int .i64)) 23 w' w.heap.size (fun k_ => (w.heap.size ≤ k_) ∧ some k_ ≠ (e0 : Value).ownBlock ∧ k_ ≠ ad) v4 cR) ∧ Aside0 (w'.heap[ad]? = some (.cells #[.int .i64 af, .int .i64 aj, (.slice az ab.length aq), (.slice ay ae.length av), (.slice ar ai.length au), (.slice aw ag.length ax)] 32 (0, 0))) ∧ Aside0 (Below w.heap.size w w'))
     case atStart => exact ⟨(b8), (0), zz12, H', ⟨Nat.le_refl _⟩, ⟨zz0y aA⟩, ⟨zz0s be⟩, ⟨zz0w aa⟩, ⟨zz0l HB ac⟩⟩
     case round =>
      clear H'; (try clear c1); (try clear p1); (try clear q1); (try clear nK); (try clear p2); (try clear c4); (try clear c6); (try clear p6); (try clear c7); (try clear dF); (try clear c8); (try clear d3); (try clear c9); (try clear eW); (try clear fG); (try clear jp); (try clear jq); (try clear i7); (try clear g6); (try clear g7); (try clear g8); (try clear g9); (try clear ha); (try clear hc); (try clear ee); (try clear ef); (try clear eg); (try clear eh); (try clear ei); (try clear ej); (try clear f6); (try clear f7); (try clear gL); (try clear gM); (try clear gN); (try clear gO); (try clear aD); (try clear cb); (try clear p2); (try clear cc); obtain ⟨cR, aG, rfl, HA, cN, aA, be, aa, HB⟩ := hrel; cases gk with
      | zero => exact absurd HA.out (by simp [spec_l6Pairs.l1])
      | succ k2 =>
       have H := HA.out; clear HA; simp only [spec_l6Pairs.l1] at H; by_cases gh : aG < (ab.length : Int)
       · rw [if_pos gh] at H; have h7 := decide_eq_true gh; clear gh; replace H := zIn H; obtain ⟨gK, H⟩ := H; have hF : decide (0 ≤ aG) = true := decide_eq_true gK; clear gK; replace H := zIn H; obtain ⟨l6, H⟩ := H; have jX : decide (aG < (ab.length : Int)) = true := decide_eq_true l6; clear l6; have p3 := zA H; clear H; have ir : 0 ≤ (aG : Int) := of_decide_eq_true zz1g; have it : aG < (ab.length : Int) := of_decide_eq_true zz1g; obtain ⟨hG, A112_0, c112_0, ps, dv, lq, lr⟩ := at_L1 bq.out aG ir it; cases ps; replace dv := (HB.out.cell (World.block_lt_of_cell? w _ dv)).trans dv; have dw := zA lr; have HC112_0 := zA lq; clear lr lq; replace ir := eq_true ir; replace it := eq_true it
         go_upto_region 11 with (fail)
         go_cut [40] (fun v40 wc => ∃ (kq : Nat) (jh : Bool), v40 = .bool jh ∧ Aside0 (spec_l6Pairs.j2 kq aE cR (rd_L1 ab aG) ab (ab.length : Int) aG jh = some r) ∧ Aside0 (kq ≤ k2) ∧ Aside0 (Kd.R (Kd.int .i64) 3 wc w.heap.size (fun k_ => (w.heap.size ≤ k_)) e0 aE) ∧ Aside0 (Kd.V (Kd.slice 3 (Kd.int .i64)) 23 wc w.heap.size (fun k_ => (w.heap.size ≤ k_) ∧ some k_ ≠ (e0 : Value).ownBlock ∧ k_ ≠ ad) u4 cR) ∧ Aside0 (wc.heap[ad]? = some (.cells #[.int .i64 af, .int .i64 aj, (.slice (some hG) ab.length aq), (.slice ay ae.length av), (.slice ar ai.length au), (.slice aw ag.length ax)] 32 (0, 0))) ∧ Aside0 (Below w.heap.size w wc))
         case first =>
          have H := p3.out; clear p3; replace H := zIn H; obtain ⟨gW, H⟩ := H; have fK : decide (2 < ((rd_L1 ab aG).length : Int)) = true := decide_eq_true gW; have oR : decide (2 < (rd_L1 ab aG).length) = true := decide_eq_true zz1l; clear gW; (first | rw [fK] | (simp only [i64_w, i32_w]; rw [fK]) | skip); by_cases io : (rd (rd_L1 ab aG) 2) ≥ 0
          · rw [if_pos io] at H; have gX : decide (0 ≤ (rd (rd_L1 ab aG) 2)) = true := decide_eq_true io; clear io; replace H := Option.bind_eq_some_iff.mp H; obtain ⟨jW, m9, H⟩ := H; have rh := zA m9; clear m9; have H' := zA H; clear H; have gz : 0 ≤ (2 : Int) := zz1l
            have gA : 2 < ((rd_L1 ab aG).length : Int) := of_decide_eq_true zz1g; obtain ⟨fo, na, cA⟩ := Kd.at_int dw.out 2 gz gA; cases na; (try simp only [show (2 : Int).toNat = 2 from rfl, Nat.reduceMul, Nat.reduceEqDiff, Go.Addr.add, ↓reduceIte] at cA); have qi113 : (2 < (rd_L1 ab aG).length) = True := eq_true zz1l; (try rw [zi2] at cA); replace cA := (HB.out.cell (World.block_lt_of_cell? w _ cA)).trans cA; replace gz := eq_true gz; replace gA := eq_true gA; have eH : 0 ≤ (2 : Int) := zz1l
            have eI : 2 < ((rd_L1 ab aG).length : Int) := of_decide_eq_true zz1g; obtain ⟨dE, ji, bk⟩ := Kd.at_int dw.out 2 eH eI; obtain rfl : fo = dE := (by injection ji)
            (try simp only [show (2 : Int).toNat = 2 from rfl, Nat.reduceMul, Nat.reduceEqDiff, Go.Addr.add, ↓reduceIte] at bk); have nb : (2 < (rd_L1 ab aG).length) = True := eq_true zz1l; (try rw [zi2] at bk); replace bk := (HB.out.cell (World.block_lt_of_cell? w _ bk)).trans bk; replace eH := eq_true eH; replace eI := eq_true eI; obtain ⟨qO, qP, pt⟩ := Kd.R_slice aA.out; subst pt; go_wp2_with (first | (go_at_call 65; (with_reducible refine (spec_l1Has.calls k2 _ _ aE (rd (rd_L1 ab aG) 2) jW _ ?al ?am rh.out).mono ?_); (case al => repeat (first | exact (Kd.R_reads' aA.out).2.2 | refine zP ?_ _ | refine zQ ?_ _ | refine zR ?_)); (case am => exact (Kd.R_reads' aA.out).2.1); rintro e w' ⟨rfl, ⟨nd, rfl⟩⟩))
            go_meet
            case rel => exact ⟨_, (jW), zz12, H', ⟨zz0z bw cN⟩, ⟨zz0y aA⟩, ⟨zz0s be⟩, ⟨zz0w aa⟩, ⟨zz0l HB ac⟩⟩
          · rw [if_neg io] at H; have gX : decide (0 ≤ (rd (rd_L1 ab aG) 2)) = false := decide_eq_false io; clear io; have H' := zA H; clear H; have gz : 0 ≤ (2 : Int) := zz1l
            have gA : 2 < ((rd_L1 ab aG).length : Int) := of_decide_eq_true zz1g; obtain ⟨fo, na, cA⟩ := Kd.at_int dw.out 2 gz gA; cases na; (try simp only [show (2 : Int).toNat = 2 from rfl, Nat.reduceMul, Nat.reduceEqDiff, Go.Addr.add, ↓reduceIte] at cA); have qi113 : (2 < (rd_L1 ab aG).length) = True := eq_true zz1l; (try rw [zi2] at cA); replace cA := (HB.out.cell (World.block_lt_of_cell? w _ cA)).trans cA; replace gz := eq_true gz; replace gA := eq_true gA; go_wp2
            go_meet
            case rel => exact ⟨_, (false), zz12, H', ⟨zz0z bw cN⟩, ⟨zz0y aA⟩, ⟨zz0s be⟩, ⟨zz0w aa⟩, ⟨zz0l HB ac⟩⟩
         case rest =>
          clear p3; (try clear c1); (try clear p1); (try clear q1); (try clear nK); (try clear rT); (try clear c2); (try clear p2); (try clear c4); (try clear c6); (try clear p6); (try clear c7); (try clear dF); (try clear c8); (try clear d3); (try clear c9); (try clear eW); (try clear fG); (try clear jp); (try clear jq); (try clear i7); (try clear fy); (try clear qp); (try clear qq); (try clear mH); (try clear pu); (try clear gh); (try clear h7); (try clear gK); (try clear hF); (try clear l6); (try clear jX); (try clear gW); (try clear fK); (try clear oR); (try clear io); (try clear gX); (try clear g6); (try clear g7); (try clear g8); (try clear g9); (try clear ha); (try clear hc); (try clear ee); (try clear ef); (try clear eg); (try clear eh); (try clear ei); (try clear ej); (try clear f6); (try clear f7); (try clear gL); (try clear gM); (try clear gN); (try clear gO); (try clear aD); (try clear dv); (try clear cA); (try clear bk); (try clear p1); (try clear jp); (try clear cb); (try clear ir); (try clear gz); (try clear eH); (try clear p2); (try clear p6); (try clear q1); (try clear jq); (try clear cc); (try clear it); (try clear gA); (try clear eI); obtain ⟨kq, jh, rfl, HA, HJ19, aA, be, aa, HB⟩ := hcut; cases kq with
          | zero => exact absurd HA.out (by simp [spec_l6Pairs.j2])
          | succ kj19 =>
           have H := HA.out; clear HA; simp only [spec_l6Pairs.j2] at H; have p4 := zA H; clear H
           go_upto_if 40 with (fail)
           go_cut [4] (fun v4 wc => ∃ (kq : Nat) (gB : List (List Int)), Aside0 (spec_l6Pairs.j3 kq aE gB (rd_L1 ab aG) ab (ab.length : Int) aG = some r) ∧ Aside0 (kq ≤ kj19) ∧ Aside0 (Kd.R (Kd.int .i64) 3 wc w.heap.size (fun k_ => (w.heap.size ≤ k_)) e0 aE) ∧ Aside0 (Kd.V (Kd.slice 3 (Kd.int .i64)) 23 wc w.heap.size (fun k_ => (w.heap.size ≤ k_) ∧ some k_ ≠ (e0 : Value).ownBlock ∧ k_ ≠ ad) v4 gB) ∧ Aside0 (wc.heap[ad]? = some (.cells #[.int .i64 af, .int .i64 aj, (.slice (some hG) ab.length aq), (.slice ay ae.length av), (.slice ar ai.length au), (.slice aw ag.length ax)] 32 (0, 0))) ∧ Aside0 (Below w.heap.size w wc))
           case first =>
            have H := p4.out; clear p4; by_cases ma : jh = true
            · subst ma; rw [if_pos rfl] at H; replace H := zIn H; obtain ⟨gJ, H⟩ := H; have hI : decide (0 < ((rd_L1 ab aG).length : Int)) = true := decide_eq_true gJ; have c27b1 : decide (0 < (rd_L1 ab aG).length) = true := decide_eq_true zz1l; clear gJ; (first | rw [hI] | (simp only [i64_w, i32_w]; rw [hI]) | skip); replace H := zIn H; obtain ⟨mc, H⟩ := H; have jD : decide (1 < ((rd_L1 ab aG).length : Int)) = true := decide_eq_true mc; have nc : decide (1 < (rd_L1 ab aG).length) = true := decide_eq_true zz1l; clear mc; obtain ⟨ne, e_y⟩ : ∃ y_ : List Int, y_ = (([rd (rd_L1 ab aG) 0, rd (rd_L1 ab aG) 1] : List Int)) := ⟨_, rfl⟩
              replace H : ((spec_l5Insert.f kj19 cR ne).bind fun lZ => (spec_l6Pairs.j3 kj19 aE lZ (rd_L1 ab aG) ab (ab.length : Int) aG)) = some r := zz05
              have oS := zA e_y; clear e_y; replace H := Option.bind_eq_some_iff.mp H; obtain ⟨lZ, jY, H⟩ := H; have qt := zA jY; clear jY; have H' := zA H; clear H; (try go_wp2); replace aA := zA (zV aA.out); replace be := zA (Kd.V_drew be.out); replace aa := zA (zJ aa.out); replace HB := zA (zD HB.out); have ep : 0 ≤ (0 : Int) := zz1l
              have eq : 0 < ((rd_L1 ab aG).length : Int) := of_decide_eq_true zz1g; obtain ⟨fH, hJ, bj⟩ := Kd.at_int dw.out 0 ep eq; have bM := bj; (try rw [zi0] at bM); (try rw [show 0 * 1 = 0 from rfl] at bM); (try rw [Addr.add_zero'] at bM); cases hJ; have oT : (0 < (rd_L1 ab aG).length) = True := eq_true zz1l; (try rw [zi0] at bj); (try rw [Addr.add_zero'] at bj); replace bj := (HB.out.cell (World.block_lt_of_cell? w _ bj)).trans bj; replace ep := eq_true ep; replace eq := eq_true eq; have er : 0 ≤ (1 : Int) := zz1l
              have es : 1 < ((rd_L1 ab aG).length : Int) := of_decide_eq_true zz1g; obtain ⟨fI, hL, ba⟩ := Kd.at_int dw.out 1 er es; have bN := ba; (try rw [zi1] at bN); (try rw [show 1 * 1 = 1 from rfl] at bN); (try simp only [Nat.reduceMul, Nat.reduceEqDiff, Go.Addr.add, ↓reduceIte] at bN); obtain rfl : fH = fI := (by injection hL)
              (try simp only [show (1 : Int).toNat = 1 from rfl, Nat.reduceMul, Nat.reduceEqDiff, Go.Addr.add, ↓reduceIte] at ba); have jK : (1 < (rd_L1 ab aG).length) = True := eq_true zz1l; (try rw [zi1] at ba); replace ba := (HB.out.cell (World.block_lt_of_cell? w _ ba)).trans ba; replace er := eq_true er; replace es := eq_true es; refine start_ (n := 10) (S := fun w' => w'.cell? fH = some (.int .i64 (rd (rd_L1 ab aG) 0)) ∧ w'.cell? ⟨fH.block, fH.off + 1, none⟩ = some (.int .i64 (rd (rd_L1 ab aG) 1))) (ds := []) #[zf, zf, zf, zf, zf, zf, zf, zf, zf, zf] zz1h rfl rfl ⟨((HB.out.cell (World.block_lt_of_cell? w _ bM)).trans bM), ((HB.out.cell (World.block_lt_of_cell? w _ bN)).trans bN)⟩ (fun hHeld => ?_); refine with_tabW spec_l6Pairs.tab12 spec_l6Pairs.bits12 (fun HT_ HW_ => ?_); generalize wc.drew = sC at aA be aa HB bj ba hHeld ⊢; refine zPu 0 41 #[zt, zf, zf, zf, zf, zf, zf, zf, zf, zf] HT_.out ?_
              refine zPu 1 42 #[zt, zt, zf, zf, zf, zf, zf, zf, zf, zf] HT_.out ?_
              refine zPu 2 43 #[zt, zt, zt, zf, zf, zf, zf, zf, zf, zf] HT_.out ?_
              refine zPu 4 45 #[zt, zt, zt, zf, zt, zf, zf, zf, zf, zf] HT_.out ?_
              refine zPu 5 46 #[zt, zt, zt, zf, zt, zt, zf, zf, zf, zf] HT_.out ?_
              refine zTk 3 44 #[zt, zt, zt, zt, zt, zt, zf, zf, zf, zf] HT_.out HW_.out hHeld ?_
              refine zTk 6 47 #[zt, zt, zt, zt, zt, zt, zt, zf, zf, zf] HT_.out HW_.out hHeld ?_
              refine one_ (i := 7) (N := some 48) #[zt, zt, zt, zt, zt, zt, zt, zt, zf, zf] rfl rfl (one_of HT_.out zz1h) zz1k (fun K hK => ?_); refine Kd.R_lit_step (Kd.int .i64) _ 3 ?hg (N := 48) ?hd (xs := ([rd (rd_L1 ab aG) 0, rd (rd_L1 ab aG) 1] : List Int)) (inner := [.int .i64 (rd (rd_L1 ab aG) 0), .int .i64 (rd (rd_L1 ab aG) 1)]) (ok := fun _ => True) (okp := fun _ => True) ?hr ?hp (fun _ hk => hk) trivial (Below.refl _ _) (Nat.le_refl _) zz1m ?_; (case hd => rfl); (case hg => rfl); (case hr => first | (go_simp; done) | (go_simp; rfl)); (case hp => exact (Reps.one (show Kd.M (Kd.int .i64) _ _ _ (rd (rd_L1 ab aG) 0) [.int .i64 (rd (rd_L1 ab aG) 0)] from rfl) (Reps.one (show Kd.M (Kd.int .i64) _ _ _ (rd (rd_L1 ab aG) 1) [.int .i64 (rd (rd_L1 ab aG) 1)] from rfl) (Reps.none _ _))))
              intro v119 sD kB hb hg_ hnew_; clear hg_ hnew_; (first | rw [← oS.out] at kB | (simp only [Int.reduceToNat] at kB; rw [← oS.out] at kB)); replace be := zA (Kd.V_elder' (zz0s be) (Kd.R_base kB) hb); have h8 := zA (Kd.R_lower (Kd.R_new' (Kd.R_newM (M := fun k_ => (w.heap.size ≤ k_)) kB (zF (zz0l HB ac)) (fun k_ h_ => h_)) (Kd.R_lt (zz0y aA))) (zF (zz0l HB ac))); replace aA := zA (Kd.R_elder' (zz0y aA) (Kd.R_base kB) hb); replace aa := zA (zMp aa.out hb); replace HB := zA (zG (zz0l HB ac) hb); clear hb kB; obtain ⟨kl, km, lO⟩ := Kd.V_slice be.out; (first | subst lO | (injection lO with f1_ f2_ f3_; have f4_ := f1_.symm; have f5_ := f3_.symm; clear f1_ f2_ f3_; subst f4_; subst f5_)); obtain ⟨p7, p8, ri⟩ := Kd.R_slice h8.out; (first | subst ri | (injection ri with f1_ f2_ f3_; have f4_ := f1_.symm; have f5_ := f3_.symm; clear f1_ f2_ f3_; subst f4_; subst f5_)); refine hK.out _ _ ⟨((HB.out.cell (World.block_lt_of_cell? w _ bM)).trans bM), ((HB.out.cell (World.block_lt_of_cell? w _ bN)).trans bN)⟩ (fun hHeld => ?_); clear hK K; refine zNo 48 ?_
              refine one_ (i := 8) (N := some 49) #[zt, zt, zt, zt, zt, zt, zt, zt, zt, zf] rfl rfl (one_of HT_.out zz1h) zz1k (fun K hK => ?_); refine goes_ Tryz.func68 zz1h rfl #[.slice kl cR.length km, .slice p7 ne.length p8] zz1n rfl rfl zz0h ?_; (with_reducible refine (spec_l5Insert.calls kj19 (fun k_ => (((w.heap.size ≤ k_) ∧ (some k_ ≠ (e0 : Value).ownBlock ∧ k_ ≠ ad)) ∧ some k_ ≠ (.slice p7 ne.length p8 : Value).ownBlock)) _ _ cR (fun k_ => some k_ = (.slice p7 ne.length p8 : Value).ownBlock) _ _ ne lZ _ ?al ?am qt.out).mono ?_); (case al => exact be.out); (case am => exact Kd.R_V (Kd.R_tight rfl (Kd.R_types (h8.out) aa.out zz1k))); rintro e rD ⟨v122, rfl, cd, hb⟩; refine ⟨_, rfl, ?_⟩; replace be := zA (Kd.V_below (zz0s be) hb); have gx := zA (Kd.V_lower (Kd.V_mono (ok' := fun k_ => (w.heap.size ≤ k_) ∧ some k_ ≠ (e0 : Value).ownBlock ∧ k_ ≠ ad) cd (fun k_ hk_ => ⟨Or.elim hk_ (fun hs_ => Or.elim hs_ (fun hs_ => hs_.1.1) (fun hs_ => ((Kd.R_types (h8.out) aa.out zz1k).1 k_ hs_.symm).1.1.1)) (fun hn_ => (Nat.le_trans (zF (zz0l HB ac)) hn_)), Or.elim hk_ (fun hs_ => Or.elim hs_ (fun hs_ => hs_.1.2.1) (fun hs_ => ((Kd.R_types (h8.out) aa.out zz1k).1 k_ hs_.symm).1.2)) (fun hn_ => (Kd.fresh' (Kd.R_lt (zz0y aA)) k_ hn_)), Or.elim hk_ (fun hs_ => Or.elim hs_ (fun hs_ => hs_.1.2.2) (fun hs_ => ((Kd.R_types (h8.out) aa.out zz1k).1 k_ hs_.symm).2)) (fun hn_ => (Kd.freshB (g := ad) (o := .cells #[.int .i64 af, .int .i64 aj, .slice (some hG) ab.length aq, .slice ay ae.length av, .slice ar ai.length au, .slice aw ag.length ax] 32 (0, 0)) (zz0w aa) k_ hn_))⟩)) (zF (zz0l HB ac))); replace aA := zA (Kd.R_below (zz0y aA) hb); replace h8 := zA (Kd.R_below (zz0y h8) hb); replace aa := zA (zMp aa.out hb); replace HB := zA (zG (zz0l HB ac) hb); (try clear hb); (try clear hb2); (try clear hk); (try clear hi); (try clear cd); refine hK.out _ _ ⟨((HB.out.cell (World.block_lt_of_cell? w _ bM)).trans bM), ((HB.out.cell (World.block_lt_of_cell? w _ bN)).trans bN)⟩ (fun hHeld => ?_); clear hK K; refine zNo 49 ?_
              refine zPu 9 4 #[zt, zt, zt, zt, zt, zt, zt, zt, zt, zt] HT_.out ?_
              refine done_ (done_of HT_.out zz1h) ?_; try go_wp2
              go_meet
              case rel => exact ⟨_, (lZ), H', ⟨by have := bw.out; have := cN.out; have := HJ19.out; first | omega | exact Nat.le_refl _⟩, ⟨zz0o aA⟩, ⟨zz0s gx⟩, ⟨zz0w aa⟩, ⟨zz0l HB ac⟩⟩
            · replace ma := Bool.eq_false_iff.mpr ma; subst ma; rw [if_neg zFt] at H; have H' := zA H; clear H; go_wp2
              go_meet
              case rel => exact ⟨_, (cR), H', ⟨by have := bw.out; have := cN.out; have := HJ19.out; first | omega | exact Nat.le_refl _⟩, ⟨zz0y aA⟩, ⟨zz0s be⟩, ⟨zz0w aa⟩, ⟨zz0l HB ac⟩⟩
           case rest =>
            clear p4; (try clear c1); (try clear p1); (try clear q1); (try clear nK); (try clear rT); (try clear c2); (try clear p2); (try clear c4); (try clear c6); (try clear p6); (try clear c7); (try clear dF); (try clear c8); (try clear d3); (try clear c9); (try clear eW); (try clear fG); (try clear jp); (try clear jq); (try clear i7); (try clear fy); (try clear qp); (try clear qq); (try clear mH); (try clear pu); (try clear gh); (try clear h7); (try clear gK); (try clear hF); (try clear l6); (try clear jX); (try clear gW); (try clear fK); (try clear oR); (try clear io); (try clear gX); (try clear ma); (try clear gJ); (try clear hI); (try clear c27b1); (try clear mc); (try clear jD); (try clear nc); (try clear g6); (try clear g7); (try clear g8); (try clear g9); (try clear ha); (try clear hc); (try clear ee); (try clear ef); (try clear eg); (try clear eh); (try clear ei); (try clear ej); (try clear f6); (try clear f7); (try clear gL); (try clear gM); (try clear gN); (try clear gO); (try clear aD); (try clear dv); (try clear cA); (try clear bk); (try clear bj); (try clear ba); (try clear p1); (try clear jp); (try clear cb); (try clear qp); (try clear ir); (try clear gz); (try clear eH); (try clear ep); (try clear er); (try clear p2); (try clear p6); (try clear q1); (try clear jq); (try clear cc); (try clear qq); (try clear it); (try clear gA); (try clear eI); (try clear eq); (try clear es); obtain ⟨kq, gB, HA, HJ24, aA, be, aa, HB⟩ := hcut; cases kq with
            | zero => exact absurd HA.out (by simp [spec_l6Pairs.j3])
            | succ kj24 =>
             have H := HA.out; clear HA; simp only [spec_l6Pairs.j3] at H; replace H := zIn H; obtain ⟨nx, H⟩ := H; have c36b0 : decide (1 < ((rd_L1 ab aG).length : Int)) = true := decide_eq_true nx; have c36b1 : decide (1 < (rd_L1 ab aG).length) = true := decide_eq_true zz1l; clear nx; by_cases ka : (rd (rd_L1 ab aG) 1) ≥ 0
             · rw [if_pos ka] at H; have c37b0 : decide (0 ≤ (rd (rd_L1 ab aG) 1)) = true := decide_eq_true ka; clear ka; replace H := Option.bind_eq_some_iff.mp H; obtain ⟨p0, rj, H⟩ := H; have sE := zA rj; clear rj; by_cases pC : p0 = true
               · subst pC; rw [if_pos rfl] at H; replace H := zIn H; obtain ⟨re, H⟩ := H; have c40b0 : decide (0 < ((rd_L1 ab aG).length : Int)) = true := decide_eq_true re; have c40b1 : decide (0 < (rd_L1 ab aG).length) = true := decide_eq_true zz1l; clear re; replace H := zIn H; obtain ⟨sF, H⟩ := H; have c41b0 : decide (2 < ((rd_L1 ab aG).length : Int)) = true := decide_eq_true sF; have c41b1 : decide (2 < (rd_L1 ab aG).length) = true := decide_eq_true zz1l; clear sF; obtain ⟨nf, e_y⟩ : ∃ y_ : List Int, y_ = (([rd (rd_L1 ab aG) 0, rd (rd_L1 ab aG) 2] : List Int)) := ⟨_, rfl⟩
                 replace H : ((spec_l5Insert.f kj24 gB nf).bind fun l3 => (spec_l6Pairs.l1 kj24 aE l3 ab (ab.length : Int) (wrap64 (aG + 1)))) = some r := zz05
                 have oU := zA e_y; clear e_y; replace H := Option.bind_eq_some_iff.mp H; obtain ⟨l3, ng, H⟩ := H; have r8 := zA ng; clear ng; have H' := zA H; clear H; have h9 : 0 ≤ (1 : Int) := zz1l
                 have ia : 1 < ((rd_L1 ab aG).length : Int) := of_decide_eq_true zz1g; obtain ⟨gC, nh, cI⟩ := Kd.at_int dw.out 1 h9 ia; cases nh; (try simp only [show (1 : Int).toNat = 1 from rfl, Nat.reduceMul, Nat.reduceEqDiff, Go.Addr.add, ↓reduceIte] at cI); have oV : (1 < (rd_L1 ab aG).length) = True := eq_true zz1l; (try rw [zi1] at cI); replace cI := (HB.out.cell (World.block_lt_of_cell? w _ cI)).trans cI; replace h9 := eq_true h9; replace ia := eq_true ia; have kC : 0 ≤ (1 : Int) := zz1l
                 have kD : 1 < ((rd_L1 ab aG).length : Int) := of_decide_eq_true zz1g; obtain ⟨ni, qa, dL⟩ := Kd.at_int dw.out 1 kC kD; obtain rfl : gC = ni := (by injection qa)
                 (try simp only [show (1 : Int).toNat = 1 from rfl, Nat.reduceMul, Nat.reduceEqDiff, Go.Addr.add, ↓reduceIte] at dL); have qi125 : (1 < (rd_L1 ab aG).length) = True := eq_true zz1l; (try rw [zi1] at dL); replace dL := (HB.out.cell (World.block_lt_of_cell? w _ dL)).trans dL; replace kC := eq_true kC; replace kD := eq_true kD; obtain ⟨nZ, n0, eo43⟩ := Kd.R_slice aA.out; subst eo43; (try go_wp2_with (first | (go_at_call 65; (with_reducible refine (spec_l1Has.calls kj24 _ _ aE (rd (rd_L1 ab aG) 1) true _ ?al ?am sE.out).mono ?_); (case al => repeat (first | exact (Kd.R_reads' aA.out).2.2 | refine zP ?_ _ | refine zQ ?_ _ | refine zR ?_)); (case am => exact (Kd.R_reads' aA.out).2.1); rintro e w' ⟨rfl, ⟨nd, rfl⟩⟩))); (try (rw [drewN_self wc]; generalize hq_ : World.drewN wc _ = wc; have hs : Aside0 (Kd.R (Kd.int .i64) 3 wc w.heap.size (fun k_ => (w.heap.size ≤ k_)) (.slice nZ aE.length n0) aE) := ⟨by rw [← hq_]; exact (zz0y aA)⟩; have ht : Aside0 (Kd.V (Kd.slice 3 (Kd.int .i64)) 23 wc w.heap.size (fun k_ => (w.heap.size ≤ k_) ∧ some k_ ≠ (.slice nZ aE.length n0 : Value).ownBlock ∧ k_ ≠ ad) u4 gB) := ⟨by rw [← hq_]; exact (zz0s be)⟩; have hu : Aside0 (wc.heap[ad]? = some (.cells #[.int .i64 af, .int .i64 aj, .slice (some hG) ab.length aq, .slice ay ae.length av, .slice ar ai.length au, .slice aw ag.length ax] 32 (0, 0))) := ⟨by rw [← hq_]; exact (zz0w aa)⟩; have hv : Aside0 (Below w.heap.size w wc) := ⟨by rw [← hq_]; exact (zz0l HB ac)⟩; clear aA be aa HB hq_; have aA := hs; have be := ht; have aa := hu; have HB := hv; clear hs ht hu hv)); replace aA := zA (zV aA.out); replace be := zA (Kd.V_drew be.out); replace aa := zA (zJ aa.out); replace HB := zA (zD HB.out); have qb : 0 ≤ (0 : Int) := zz1l
                 have qc : 0 < ((rd_L1 ab aG).length : Int) := of_decide_eq_true zz1g; obtain ⟨ad127, e127, fj⟩ := Kd.at_int dw.out 0 qb qc; have eu := fj; (try rw [zi0] at eu); (try rw [show 0 * 1 = 0 from rfl] at eu); (try rw [Addr.add_zero'] at eu); obtain rfl : gC = ad127 := (by injection e127)
                 have qi127 : (0 < (rd_L1 ab aG).length) = True := eq_true zz1l; (try rw [zi0] at fj); (try rw [Addr.add_zero'] at fj); replace fj := (HB.out.cell (World.block_lt_of_cell? w _ fj)).trans fj; replace qb := eq_true qb; replace qc := eq_true qc; have qd : 0 ≤ (2 : Int) := zz1l
                 have qe : 2 < ((rd_L1 ab aG).length : Int) := of_decide_eq_true zz1g; obtain ⟨ad128, e128, fk⟩ := Kd.at_int dw.out 2 qd qe; have ev := fk; (try rw [zi2] at ev); (try rw [show 2 * 1 = 2 from rfl] at ev); (try simp only [Nat.reduceMul, Nat.reduceEqDiff, Go.Addr.add, ↓reduceIte] at ev); obtain rfl : gC = ad128 := (by injection e128)
                 (try simp only [show (2 : Int).toNat = 2 from rfl, Nat.reduceMul, Nat.reduceEqDiff, Go.Addr.add, ↓reduceIte] at fk); have qi128 : (2 < (rd_L1 ab aG).length) = True := eq_true zz1l; (try rw [zi2] at fk); replace fk := (HB.out.cell (World.block_lt_of_cell? w _ fk)).trans fk; replace qd := eq_true qd; replace qe := eq_true qe; refine start_ (n := 10) (S := fun w' => w'.cell? gC = some (.int .i64 (rd (rd_L1 ab aG) 0)) ∧ w'.cell? ⟨gC.block, gC.off + 2, none⟩ = some (.int .i64 (rd (rd_L1 ab aG) 2))) (ds := []) #[zf, zf, zf, zf, zf, zf, zf, zf, zf, zf] zz1h rfl rfl ⟨((HB.out.cell (World.block_lt_of_cell? w _ eu)).trans eu), ((HB.out.cell (World.block_lt_of_cell? w _ ev)).trans ev)⟩ (fun hHeld => ?_); refine with_tabW spec_l6Pairs.tab14 spec_l6Pairs.bits14 (fun HT_ HW_ => ?_); generalize wc.drew = w44 at aA be aa HB fj fk hHeld ⊢; refine zPu 0 61 #[zt, zf, zf, zf, zf, zf, zf, zf, zf, zf] HT_.out ?_
                 refine zPu 1 62 #[zt, zt, zf, zf, zf, zf, zf, zf, zf, zf] HT_.out ?_
                 refine zPu 2 63 #[zt, zt, zt, zf, zf, zf, zf, zf, zf, zf] HT_.out ?_
                 refine zPu 4 65 #[zt, zt, zt, zf, zt, zf, zf, zf, zf, zf] HT_.out ?_
                 refine zPu 5 66 #[zt, zt, zt, zf, zt, zt, zf, zf, zf, zf] HT_.out ?_
                 refine zTk 3 64 #[zt, zt, zt, zt, zt, zt, zf, zf, zf, zf] HT_.out HW_.out hHeld ?_
                 refine zTk 6 67 #[zt, zt, zt, zt, zt, zt, zt, zf, zf, zf] HT_.out HW_.out hHeld ?_
                 refine one_ (i := 7) (N := some 68) #[zt, zt, zt, zt, zt, zt, zt, zt, zf, zf] rfl rfl (one_of HT_.out zz1h) zz1k (fun K hK => ?_); refine Kd.R_lit_step (Kd.int .i64) _ 3 ?hg (N := 68) ?hd (xs := ([rd (rd_L1 ab aG) 0, rd (rd_L1 ab aG) 2] : List Int)) (inner := [.int .i64 (rd (rd_L1 ab aG) 0), .int .i64 (rd (rd_L1 ab aG) 2)]) (ok := fun _ => True) (okp := fun _ => True) ?hr ?hp (fun _ hk => hk) trivial (Below.refl _ _) (Nat.le_refl _) zz1m ?_; (case hd => rfl); (case hg => rfl); (case hr => first | (go_simp; done) | (go_simp; rfl)); (case hp => exact (Reps.one (show Kd.M (Kd.int .i64) _ _ _ (rd (rd_L1 ab aG) 0) [.int .i64 (rd (rd_L1 ab aG) 0)] from rfl) (Reps.one (show Kd.M (Kd.int .i64) _ _ _ (rd (rd_L1 ab aG) 2) [.int .i64 (rd (rd_L1 ab aG) 2)] from rfl) (Reps.none _ _))))
                 intro v130 w45 kE hb hg_ hnew_; clear hg_ hnew_; (first | rw [← oU.out] at kE | (simp only [Int.reduceToNat] at kE; rw [← oU.out] at kE)); replace be := zA (Kd.V_elder' (zz0s be) (Kd.R_base kE) hb); have ib := zA (Kd.R_lower (Kd.R_new' (Kd.R_newM (M := fun k_ => (w.heap.size ≤ k_)) kE (zF (zz0l HB ac)) (fun k_ h_ => h_)) (Kd.R_lt (zz0y aA))) (zF (zz0l HB ac))); replace aA := zA (Kd.R_elder' (zz0y aA) (Kd.R_base kE) hb); replace aa := zA (zMp aa.out hb); replace HB := zA (zG (zz0l HB ac) hb); clear hb kE; obtain ⟨Ao47, co47, rk⟩ := Kd.V_slice be.out; (first | subst rk | (injection rk with f1_ f2_ f3_; have f4_ := f1_.symm; have f5_ := f3_.symm; clear f1_ f2_ f3_; subst f4_; subst f5_)); obtain ⟨jU, jV, nX⟩ := Kd.R_slice ib.out; (first | subst nX | (injection nX with f1_ f2_ f3_; have f4_ := f1_.symm; have f5_ := f3_.symm; clear f1_ f2_ f3_; subst f4_; subst f5_)); refine hK.out _ _ ⟨((HB.out.cell (World.block_lt_of_cell? w _ eu)).trans eu), ((HB.out.cell (World.block_lt_of_cell? w _ ev)).trans ev)⟩ (fun hHeld => ?_); clear hK K; refine zNo 68 ?_
                 refine one_ (i := 8) (N := some 69) #[zt, zt, zt, zt, zt, zt, zt, zt, zt, zf] rfl rfl (one_of HT_.out zz1h) zz1k (fun K hK => ?_); refine goes_ Tryz.func68 zz1h rfl #[.slice Ao47 gB.length co47, .slice jU nf.length jV] zz1n rfl rfl zz0h ?_; (with_reducible refine (spec_l5Insert.calls kj24 (fun k_ => (((w.heap.size ≤ k_) ∧ (some k_ ≠ (.slice nZ aE.length n0 : Value).ownBlock ∧ k_ ≠ ad)) ∧ some k_ ≠ (.slice jU nf.length jV : Value).ownBlock)) _ _ gB (fun k_ => some k_ = (.slice jU nf.length jV : Value).ownBlock) _ _ nf l3 _ ?al ?am r8.out).mono ?_); (case al => exact be.out); (case am => exact Kd.R_V (Kd.R_tight rfl (Kd.R_types (ib.out) aa.out zz1k))); rintro e w49 ⟨v133, rfl, cd, hb⟩; refine ⟨_, rfl, ?_⟩; replace be := zA (Kd.V_below (zz0s be) hb); have HO134 := zA (Kd.V_lower (Kd.V_mono (ok' := fun k_ => (w.heap.size ≤ k_) ∧ some k_ ≠ (.slice nZ aE.length n0 : Value).ownBlock ∧ k_ ≠ ad) cd (fun k_ hk_ => ⟨Or.elim hk_ (fun hs_ => Or.elim hs_ (fun hs_ => hs_.1.1) (fun hs_ => ((Kd.R_types (ib.out) aa.out zz1k).1 k_ hs_.symm).1.1.1)) (fun hn_ => (Nat.le_trans (zF (zz0l HB ac)) hn_)), Or.elim hk_ (fun hs_ => Or.elim hs_ (fun hs_ => hs_.1.2.1) (fun hs_ => ((Kd.R_types (ib.out) aa.out zz1k).1 k_ hs_.symm).1.2)) (fun hn_ => (Kd.fresh' (Kd.R_lt (zz0y aA)) k_ hn_)), Or.elim hk_ (fun hs_ => Or.elim hs_ (fun hs_ => hs_.1.2.2) (fun hs_ => ((Kd.R_types (ib.out) aa.out zz1k).1 k_ hs_.symm).2)) (fun hn_ => (Kd.freshB (g := ad) (o := .cells #[.int .i64 af, .int .i64 aj, .slice (some hG) ab.length aq, .slice ay ae.length av, .slice ar ai.length au, .slice aw ag.length ax] 32 (0, 0)) (zz0w aa) k_ hn_))⟩)) (zF (zz0l HB ac))); replace aA := zA (Kd.R_below (zz0y aA) hb); replace ib := zA (Kd.R_below (zz0y ib) hb); replace aa := zA (zMp aa.out hb); replace HB := zA (zG (zz0l HB ac) hb); (try clear hb); (try clear hb2); (try clear hk); (try clear hi); (try clear cd); refine hK.out _ _ ⟨((HB.out.cell (World.block_lt_of_cell? w _ eu)).trans eu), ((HB.out.cell (World.block_lt_of_cell? w _ ev)).trans ev)⟩ (fun hHeld => ?_); clear hK K; refine zNo 69 ?_
                 refine zPu 9 4 #[zt, zt, zt, zt, zt, zt, zt, zt, zt, zt] HT_.out ?_
                 refine done_ (done_of HT_.out zz1h) ?_; try go_wp2
                 go_roundg kj24
                 case measure => have := bw.out; have := cN.out; have := HJ19.out; have := HJ24.out; omega
                 case rel => exact ⟨(l3), (wrap64 (aG + 1)), zz12, H', ⟨by have := bw.out; have := cN.out; have := HJ19.out; have := HJ24.out; omega⟩, ⟨zz0o aA⟩, ⟨zz0s HO134⟩, ⟨zz0w aa⟩, ⟨zz0l HB ac⟩⟩
               · replace pC := Bool.eq_false_iff.mpr pC; subst pC; rw [if_neg zFt] at H; have H' := zA H; clear H; have h9 : 0 ≤ (1 : Int) := zz1l
                 have ia : 1 < ((rd_L1 ab aG).length : Int) := of_decide_eq_true zz1g; obtain ⟨gC, nh, cI⟩ := Kd.at_int dw.out 1 h9 ia; cases nh; (try simp only [show (1 : Int).toNat = 1 from rfl, Nat.reduceMul, Nat.reduceEqDiff, Go.Addr.add, ↓reduceIte] at cI); have oV : (1 < (rd_L1 ab aG).length) = True := eq_true zz1l; (try rw [zi1] at cI); replace cI := (HB.out.cell (World.block_lt_of_cell? w _ cI)).trans cI; replace h9 := eq_true h9; replace ia := eq_true ia; have kC : 0 ≤ (1 : Int) := zz1l
                 have kD : 1 < ((rd_L1 ab aG).length : Int) := of_decide_eq_true zz1g; obtain ⟨ni, qa, dL⟩ := Kd.at_int dw.out 1 kC kD; obtain rfl : gC = ni := (by injection qa)
                 (try simp only [show (1 : Int).toNat = 1 from rfl, Nat.reduceMul, Nat.reduceEqDiff, Go.Addr.add, ↓reduceIte] at dL); have qi125 : (1 < (rd_L1 ab aG).length) = True := eq_true zz1l; (try rw [zi1] at dL); replace dL := (HB.out.cell (World.block_lt_of_cell? w _ dL)).trans dL; replace kC := eq_true kC; replace kD := eq_true kD; obtain ⟨pJ, pK, nT⟩ := Kd.R_slice aA.out; subst nT; go_wp2_with (first | (go_at_call 65; (with_reducible refine (spec_l1Has.calls kj24 _ _ aE (rd (rd_L1 ab aG) 1) false _ ?al ?am sE.out).mono ?_); (case al => repeat (first | exact (Kd.R_reads' aA.out).2.2 | refine zP ?_ _ | refine zQ ?_ _ | refine zR ?_)); (case am => exact (Kd.R_reads' aA.out).2.1); rintro e w' ⟨rfl, ⟨nd, rfl⟩⟩))
                 go_roundg kj24
                 case measure => have := bw.out; have := cN.out; have := HJ19.out; have := HJ24.out; omega
                 case rel => exact ⟨(gB), (wrap64 (aG + 1)), zz12, H', ⟨by have := bw.out; have := cN.out; have := HJ19.out; have := HJ24.out; omega⟩, ⟨zz0y aA⟩, ⟨zz0s be⟩, ⟨zz0w aa⟩, ⟨zz0l HB ac⟩⟩
             · rw [if_neg ka] at H; have c37b0 : decide (0 ≤ (rd (rd_L1 ab aG) 1)) = false := decide_eq_false ka; clear ka; have H' := zA H; clear H; have h9 : 0 ≤ (1 : Int) := zz1l
               have ia : 1 < ((rd_L1 ab aG).length : Int) := of_decide_eq_true zz1g; obtain ⟨gC, nh, cI⟩ := Kd.at_int dw.out 1 h9 ia; cases nh; (try simp only [show (1 : Int).toNat = 1 from rfl, Nat.reduceMul, Nat.reduceEqDiff, Go.Addr.add, ↓reduceIte] at cI); have oV : (1 < (rd_L1 ab aG).length) = True := eq_true zz1l; (try rw [zi1] at cI); replace cI := (HB.out.cell (World.block_lt_of_cell? w _ cI)).trans cI; replace h9 := eq_true h9; replace ia := eq_true ia; go_wp2
               go_roundg kj24
               case measure => have := bw.out; have := cN.out; have := HJ19.out; have := HJ24.out; omega
               case rel => exact ⟨(gB), (wrap64 (aG + 1)), zz12, H', ⟨by have := bw.out; have := cN.out; have := HJ19.out; have := HJ24.out; omega⟩, ⟨zz0y aA⟩, ⟨zz0s be⟩, ⟨zz0w aa⟩, ⟨zz0l HB ac⟩⟩
       · rw [if_neg gh] at H; have h7 := decide_eq_false gh; clear gh; obtain rfl := Option.some.inj H; go_wp2; go_ret; exact ⟨_, zz0v, by (with_reducible repeat (first | apply Kd.V_alloc | apply Kd.V_drewN | apply Kd.V_drew)); exact Kd.V_mono be.out (fun _ hk => hk.1), zz0l HB ac⟩
end Go.Proofs.YtkocahlifffgjaaGreat.P
namespace Go.Proofs.YtkocahlifffgjaaGreat.P
open Go.RowKit Go.Proofs.YtkocahlifffgjaaGreatW.PrintWords
set_option linter.unusedVariables false
set_option linter.unusedSimpArgs false
theorem l1SameR_loop (a b : List Int) (hl : a.length = b.length) (hb : a.length ≤ 9223372036854775807) (d : Nat) : ∀ (k i : Nat), i ≤ a.length → a.length - i = d → d < k →
 spec_l1Same.l0 k a b a.length i = some (decide (a.drop i = b.drop i)) := by
 induction d with
 | zero =>
  intro k i h1 hd hk; obtain ⟨k, rfl⟩ : ∃ m, k = m + 1 := ⟨k - 1, zz1l⟩
  simp only [spec_l1Same.l0]; rw [if_neg zz1l]; rw [List.drop_of_length_le zz1l, List.drop_of_length_le zz1l]; simp
 | succ d ih =>
  intro k i h1 hd hk; obtain ⟨k, rfl⟩ : ∃ m, k = m + 1 := ⟨k - 1, zz1l⟩
  simp only [spec_l1Same.l0]; rw [if_pos zz1l, if_pos zz1l, if_pos zz1l, if_pos zz1l]; have hw : wrap64 ((i : Int) + 1) = ((i + 1 : Nat) : Int) := by unfold wrap64; omega
  have ea : a.drop i = rd a i :: a.drop (i + 1) := getD_drop a i 0 zz1l; have eb : b.drop i = rd b i :: b.drop (i + 1) := getD_drop b i 0 zz1l; by_cases he : rd a i = rd b i
  · rw [if_pos he, hw, ih k (i + 1) zz1l zz1l zz1l, ea, eb, he]; congr 1; simp
  · rw [if_neg he, ea, eb]; simp [he]
theorem l1SameR_eq (a b : List Int) (hb : a.length ≤ 9223372036854775807) : ∀ k, a.length < k → spec_l1Same.f k a b = some (decide (a = b)) := by
 intro k hk; unfold spec_l1Same.f; by_cases hl : a.length = b.length
 · rw [if_pos zz1l]; have := l1SameR_loop a b hl hb a.length k 0 zz1l zz1l hk; simpa using this
 · rw [if_neg zz1l]; have : a ≠ b := fun h => hl (by rw [h])
   simp [this]
theorem decide_cmp (x y : Int) (us vs : List Int) : decide (cmpL (x :: us) (y :: vs) < 0) = (if x = y then decide (cmpL us vs < 0) else decide (x < y)) := by
 by_cases c : x = y
 · rw [if_pos c]; exact decide_eq_decide.2 (by simp only [cmpL]; rw [if_neg zz1l, if_neg zz1l])
 · rw [if_neg c]; refine decide_eq_decide.2 ?_; simp only [cmpL]; by_cases c2 : x < y
   · rw [if_pos c2]; simp [c2]
   · rw [if_neg c2, if_pos zz1l]; simp [c2]
theorem less_loop (a b : List Int) (hl : a.length = b.length) (hb : a.length ≤ 9223372036854775807) (d : Nat) : ∀ (k i : Nat), i ≤ a.length → a.length - i = d → d < k →
 spec_l5Less.l0 k a b a.length i = some (decide (cmpL (a.drop i) (b.drop i) < 0)) := by
 induction d with
 | zero =>
  intro k i h1 hd hk; obtain ⟨k, rfl⟩ : ∃ m, k = m + 1 := ⟨k - 1, zz1l⟩
  simp only [spec_l5Less.l0]; rw [if_neg zz1l, List.drop_of_length_le zz1l, List.drop_of_length_le zz1l]; rfl
 | succ d ih =>
  intro k i h1 hd hk; obtain ⟨k, rfl⟩ : ∃ m, k = m + 1 := ⟨k - 1, zz1l⟩
  have ea : a.drop i = rd a i :: a.drop (i + 1) := getD_drop a i 0 zz1l; have eb : b.drop i = rd b i :: b.drop (i + 1) := getD_drop b i 0 zz1l; simp only [spec_l5Less.l0]; rw [if_pos zz1l, if_pos zz1l, if_pos zz1l, if_pos zz1l, ea, eb, decide_cmp]; by_cases c : rd a i = rd b i
  · rw [if_pos c, if_pos c, wsuccL (show i < a.length by omega) hb, ih k (i + 1) zz1l zz1l zz1l]
  · rw [if_neg c, if_neg c]
theorem less_eq (a b : List Int) (hl : a.length = b.length) (hb : a.length ≤ 9223372036854775807) (k : Nat) (hk : a.length < k) : spec_l5Less.f k a b = some (decide (cmpL a b < 0)) := by
 unfold spec_l5Less.f; have := less_loop a b hl hb a.length k 0 zz1l zz1l hk; rwa [show ((0 : Nat) : Int) = 0 from rfl, List.drop_zero, List.drop_zero] at this
theorem putL_old {l : List (List Int)} {x : List Int} (hu : UpL l) (hx : x ∈ l) : putL l x = l := upL_ext (upL_put l x hu) hu fun y => (mem_putL l x y).trans ⟨fun h => h.elim (fun e => by rw [e]; exact hx) id, .inr⟩
theorem putL_mid {l : List (List Int)} {x : List Int} (hu : UpL l) (i : Nat) (h1 : ∀ a, a ∈ l.take i → cmpL a x < 0) (h2 : ∀ b, b ∈ l.drop i → cmpL x b < 0) : putL l x = l.take i ++ [x] ++ l.drop i := by
 refine upL_ext (upL_put l x hu) ?_ fun y => ?_
 · unfold UpL at hu ⊢; rw [← List.take_append_drop i l, List.pairwise_append] at hu; rw [List.append_assoc, List.pairwise_append]; refine ⟨hu.1, List.pairwise_cons.2 ⟨h2, hu.2.1⟩, fun a ha b hb => ?_⟩; rcases List.mem_cons.1 hb with e | e
   · rw [e]; exact h1 a ha
   · exact hu.2.2 a ha b e
 · rw [mem_putL, List.append_assoc, List.mem_append, List.singleton_append, List.mem_cons]; have : y ∈ l ↔ y ∈ l.take i ∨ y ∈ l.drop i := by rw [← List.mem_append, List.take_append_drop]
   rw [this]; exact ⟨fun h => h.elim (fun e => .inr (.inl e)) (fun h => h.elim .inl (fun h => .inr (.inr h))), fun h => h.elim (fun h => .inr (.inl h)) (fun h => h.elim .inl (fun h => .inr (.inr h)))⟩
theorem insert_loop (l : List (List Int)) (x : List Int) (m : Nat) (hm : m ≤ 1048576) (hx : x.length = m) (hlm : ∀ y, y ∈ l → y.length = m) (hu : UpL l) (hl : l.length + 1 < 5864062014805) (i : Nat) : ∀ (k : Nat), i ≤ l.length → (∀ b, b ∈ l.drop i → cmpL x b < 0) → i + m + 1 < k →
 spec_l5Insert.l0 k l x i = some (putL l x) := by
 have fin : ∀ i : Nat, i ≤ l.length → ((l.take i) ++ [x] ++ l.drop i).length = l.length + 1 := fun i hi => by simp only [List.length_append, List.length_take, List.length_drop, List.length_cons, List.length_nil]; omega
 induction i with
 | zero =>
  intro k h1 hb hk; obtain ⟨k, rfl⟩ : ∃ m, k = m + 1 := ⟨k - 1, zz1l⟩
  have e := putL_mid hu 0 (fun a ha => by rw [List.take_zero] at ha; cases ha) hb; simp only [spec_l5Insert.l0]; rw [if_neg zz1l]; simp only [Option.bind_some]; rw [if_pos zz1l, if_pos zz1l]; simp only [List.length_nil, List.nil_append, show ((0 : Nat) : Int).toNat = 0 from rfl, List.drop_zero, List.take_zero, List.length_cons]; rw [if_pos zz1l, if_pos zz1l, if_pos zz1l, if_pos zz1l, e]; simp
 | succ i ih =>
  intro k h1 hb hk; obtain ⟨k, rfl⟩ : ∃ m, k = m + 1 := ⟨k - 1, zz1l⟩
  have e1 : wrap64 (((i + 1 : Nat) : Int) - 1) = (i : Int) := by unfold wrap64; omega
  have hil : i < l.length := by omega
  have ed : l.drop i = rd_L1 l i :: l.drop (i + 1) := getD_drop l i [] hil; have hmem : rd_L1 l i ∈ l := by unfold rd_L1; rw [Int.toNat_natCast, List.getD_eq_getElem?_getD, List.getElem?_eq_getElem hil]; exact List.getElem_mem hil
  have hyl := hlm _ hmem; have hN := ih k zz1l; have hlt : ∀ a, a ∈ l.take i → cmpL a (rd_L1 l i) < 0 := by
   intro a ha; have := hu; unfold UpL at this; rw [← List.take_append_drop i l, List.pairwise_append, ed] at this; exact this.2.2 a ha _ List.mem_cons_self
  have et : l.take (i + 1) = l.take i ++ [rd_L1 l i] := take_getD l i [] hil; obtain ⟨y, hy⟩ : ∃ y, y = rd_L1 l i := ⟨_, rfl⟩
  rw [← hy] at ed hmem hyl hlt et; simp only [spec_l5Insert.l0]; rw [if_pos zz1l, e1, if_pos zz1l, if_pos zz1l, ← hy, less_eq x y zz1l zz1l k zz1l]; simp only [Option.bind_some]; by_cases c : cmpL x y < 0
  · rw [if_pos (decide_eq_true c)]; exact hN (fun b hb2 => by
     rw [ed] at hb2; rcases List.mem_cons.1 hb2 with e | e
     · rw [e]; exact c
     · exact hb b e) zz1l
  · rw [if_neg (by rw [decide_eq_false c]; decide), l1SameR_eq y x zz1l k zz1l]; simp only [Option.bind_some]; by_cases c2 : y = x
    · rw [if_pos (decide_eq_true c2), putL_old hu (c2 ▸ hmem)]
    · rw [if_neg (by rw [decide_eq_false c2]; decide), if_pos zz1l, if_pos zz1l]; have e := putL_mid hu (i + 1) (fun a ha => by
       rw [et] at ha; have hyx : cmpL y x < 0 := cmpL_flip c (fun e => c2 e.symm); rcases List.mem_append.1 ha with h | h
       · exact cmpL_trans _ _ _ (hlt a h) hyx
       · rw [List.mem_singleton.1 h]; exact hyx) hb
      have hl1 : (l.take (i + 1)).length = i + 1 := by rw [List.length_take]; omega
      have hl2 : (l.drop (i + 1)).length = l.length - (i + 1) := List.length_drop; simp only [List.length_nil, List.nil_append, Int.toNat_natCast, List.length_append, List.length_cons, hl1, hl2]; rw [if_pos zz1l, if_pos zz1l, if_pos zz1l, if_pos zz1l, e]
theorem insert_eq (l : List (List Int)) (x : List Int) (m : Nat) (hm : m ≤ 1048576) (hx : x.length = m) (hlm : ∀ y, y ∈ l → y.length = m) (hu : UpL l) (hl : l.length + 1 < 5864062014805) (k : Nat) (hk : l.length + m + 1 < k) : spec_l5Insert.f k l x = some (putL l x) := by
 unfold spec_l5Insert.f; exact insert_loop l x m hm hx hlm hu hl l.length k (Nat.le_refl _) (fun b hb => by rw [List.drop_of_length_le (Nat.le_refl _)] at hb; cases hb) hk
theorem putL_len (l : List (List Int)) (n : List Int) : (putL l n).length ≤ l.length + 1 := by
 induction l with
 | nil => simp [putL]
 | cons a l ih =>
  simp only [putL]
  split
  · simp; omega
  · split <;> simp
structure PutI (out raw : List (List Int)) : Prop where
 up : UpL out
 two : ∀ y, y ∈ out → y.length = 2
 mem : ∀ y, y ∈ out ↔ y ∈ raw
 len : out.length ≤ raw.length
theorem PutI.put {out raw : List (List Int)} (h : PutI out raw) {x : List Int} (hx : x.length = 2) : PutI (putL out x) (raw ++ [x]) :=
 ⟨upL_put _ _ h.up, fun y hy => by rcases (mem_putL _ _ _).1 hy with e | e; · rw [e]; exact hx
                                   · exact h.two y e, fun y => by rw [mem_putL, List.mem_append, List.mem_singleton, h.mem]; exact Or.comm, by rw [List.length_append]; have := putL_len out x; have := h.len; simp; omega⟩
theorem PutI.sort {out raw : List (List Int)} (h : PutI out raw) {raw2 : List (List Int)} (hr : ∀ y, y ∈ raw ↔ y ∈ raw2) : out = sortL raw2 := upL_of h.up fun y => (h.mem y).trans (hr y)
def unitsR (s : List Bool) (l : List Int) : List (List Int) := (if nulS s (rd l 2) = true then [[rd l 0, rd l 1]] else []) ++ (if nulS s (rd l 1) = true then [[rd l 0, rd l 2]] else [])
theorem mem_unitsR {s : List Bool} {l p : List Int} : p ∈ unitsR s l ↔ p ∈ unitsOf s l := by
 unfold unitsR unitsOf; rw [List.mem_append, List.mem_append]; exact Or.comm
theorem unitsR_len (s : List Bool) (l : List Int) : (unitsR s l).length ≤ 2 := by
 unfold unitsR; rw [List.length_append]; have h1 : (if nulS s (rd l 1) = true then [[rd l 0, rd l 2]] else []).length ≤ 1 := by split <;> simp
 have h2 : (if nulS s (rd l 2) = true then [[rd l 0, rd l 1]] else []).length ≤ 1 := by split <;> simp
 omega
theorem has_setB (s : List Bool) (hs : s.length ≤ 40) (x : Int) (h0 : 0 ≤ x) (hx : x < (s.length : Int)) (k : Nat) (hk : 41 ≤ k) : spec_l1Has.f k (setB s) x = some (nulS s x) := by
 have hl := setB_len s; rw [has_eq (setB s) x zz1l k zz1l]; congr 1; rw [Bool.eq_iff_iff, decide_eq_true_eq, mem_setB, nulS_pos h0]; exact ⟨fun h => h.2, fun h => ⟨⟨h0, hx⟩, h⟩⟩
section
variable {s : List Bool} (hs : s.length ≤ 40)
include hs
theorem sp_j3 (out raw ls : List (List Int)) (y : List Int) (i : Int) (X : List (List Int)) (hy : y.length = 3) (h1 : rd y 1 < (s.length : Int)) (hp : PutI out raw) (hl : raw.length ≤ 5864062014000)
 (h : ∀ out', PutI out' (raw ++ (if nulS s (rd y 1) = true then [[rd y 0, rd y 2]] else [])) → Ev (fun k => spec_l6Pairs.l1 k (setB s) out' ls ls.length (wrap64 (i + 1))) X) :
 Ev (fun k => spec_l6Pairs.j3 k (setB s) out y ls ls.length i) X := by
 have hol := hp.len; by_cases c : 0 ≤ rd y 1
 · cases hv : nulS s (rd y 1) with
   | true =>
    rw [hv, if_pos rfl] at h; obtain ⟨K, h⟩ := h (putL out [rd y 0, rd y 2]) (hp.put rfl); dsimp only at h; refine ⟨K + out.length + 50, fun k hk => ?_⟩; dsimp only; obtain ⟨k, rfl⟩ : ∃ m, k = m + 1 := ⟨k - 1, zz1l⟩
    simp only [spec_l6Pairs.j3]; rw [if_pos zz1l, if_pos zz1l, has_setB s hs _ c h1 k zz1l, hv]; simp only [Option.bind_some]; rw [if_pos trivial, if_pos zz1l, if_pos zz1l, insert_eq out _ 2 zz1l rfl hp.two hp.up zz1l k zz1l]; exact h k zz1l
   | false =>
    rw [hv, if_neg zz1k, List.append_nil] at h; obtain ⟨K, h⟩ := h out hp; dsimp only at h; refine ⟨K + 50, fun k hk => ?_⟩; dsimp only; obtain ⟨k, rfl⟩ : ∃ m, k = m + 1 := ⟨k - 1, zz1l⟩
    simp only [spec_l6Pairs.j3]; rw [if_pos zz1l, if_pos zz1l, has_setB s hs _ c h1 k zz1l, hv]; simp only [Option.bind_some]; rw [if_neg zz1k]; exact h k zz1l
 · rw [nulS_neg zz1l, if_neg zz1k, List.append_nil] at h; obtain ⟨K, h⟩ := h out hp; dsimp only at h; refine ⟨K + 1, fun k hk => ?_⟩; dsimp only; obtain ⟨k, rfl⟩ : ∃ m, k = m + 1 := ⟨k - 1, zz1l⟩
   simp only [spec_l6Pairs.j3]; rw [if_pos zz1l, if_neg zz1l]; exact h k zz1l
theorem sp_j2 (out raw ls : List (List Int)) (y : List Int) (i : Int) (X : List (List Int)) (hy : y.length = 3) (h1 : rd y 1 < (s.length : Int)) (b : Bool) (hp : PutI out raw) (hl : raw.length ≤ 5864062013000)
 (h : ∀ out', PutI out' (raw ++ ((if b = true then [[rd y 0, rd y 1]] else []) ++ (if nulS s (rd y 1) = true then [[rd y 0, rd y 2]] else []))) → Ev (fun k => spec_l6Pairs.l1 k (setB s) out' ls ls.length (wrap64 (i + 1))) X) :
 Ev (fun k => spec_l6Pairs.j2 k (setB s) out y ls ls.length i b) X := by
 have hol := hp.len; cases b with
 | true =>
  rw [if_pos rfl] at h; obtain ⟨K, h⟩ := sp_j3 hs (putL out [rd y 0, rd y 1]) (raw ++ [[rd y 0, rd y 1]]) ls y i X hy h1 (hp.put rfl) (by rw [List.length_append]; simp; omega) (by simpa using h); dsimp only at h; refine ⟨K + out.length + 50, fun k hk => ?_⟩; dsimp only; obtain ⟨k, rfl⟩ : ∃ m, k = m + 1 := ⟨k - 1, zz1l⟩
  simp only [spec_l6Pairs.j2]; rw [if_pos trivial, if_pos zz1l, if_pos zz1l, insert_eq out _ 2 zz1l rfl hp.two hp.up zz1l k zz1l]; exact h k zz1l
 | false =>
  rw [if_neg zz1k, List.nil_append] at h; obtain ⟨K, h⟩ := sp_j3 hs out raw ls y i X hy h1 hp zz1l h; dsimp only at h; refine ⟨K + 1, fun k hk => ?_⟩; dsimp only; obtain ⟨k, rfl⟩ : ∃ m, k = m + 1 := ⟨k - 1, zz1l⟩
  simp only [spec_l6Pairs.j2]; rw [if_neg zz1k]; exact h k zz1l
theorem sp_l1 (ls : List (List Int)) (hls : ls.length ≤ 1048576) (hok : ∀ l, l ∈ ls → l.length = 3 ∧ rd l 1 < (s.length : Int) ∧ rd l 2 < (s.length : Int)) (raw2 : List (List Int)) (d : Nat) : ∀ (i : Nat) (out raw : List (List Int)), i ≤ ls.length → ls.length - i = d → PutI out raw → raw.length ≤ 1048576 + 2 * i → (∀ p, p ∈ raw ++ (ls.drop i).flatMap (unitsR s) ↔ p ∈ raw2) →
 Ev (fun k => spec_l6Pairs.l1 k (setB s) out ls ls.length i) (sortL raw2) := by
 induction d with
 | zero =>
  intro i out raw h1 hd hp ho hm; refine ⟨1, fun k hk => ?_⟩; dsimp only; obtain ⟨k, rfl⟩ : ∃ m, k = m + 1 := ⟨k - 1, zz1l⟩
  simp only [spec_l6Pairs.l1]; rw [List.drop_of_length_le zz1l] at hm; rw [if_neg zz1l, hp.sort (fun y => by have := hm y; simpa using this)]
 | succ d ih =>
  intro i out raw h1 hd hp ho hm; have hil : i < ls.length := by omega
  have ed : ls.drop i = rd_L1 ls i :: ls.drop (i + 1) := getD_drop ls i [] hil; have hmem : rd_L1 ls i ∈ ls := by unfold rd_L1; rw [Int.toNat_natCast, List.getD_eq_getElem?_getD, List.getElem?_eq_getElem hil]; exact List.getElem_mem hil
  obtain ⟨y3, y1, y2⟩ := hok _ hmem; obtain ⟨y, hy⟩ : ∃ y, y = rd_L1 ls i := ⟨_, rfl⟩
  rw [← hy] at y3 y1 y2 ed; rw [ed, List.flatMap_cons] at hm; have ew : wrap64 ((i : Int) + 1) = ((i + 1 : Nat) : Int) := wsuccL hil zz1l; have hJ : Ev (fun k => spec_l6Pairs.j2 k (setB s) out y ls ls.length i (nulS s (rd y 2))) (sortL raw2) := sp_j2 hs out raw ls y i _ y3 y1 _ hp zz1l (fun out' hp' => by
   rw [ew]; refine ih (i + 1) out' (raw ++ unitsR s y) zz1l zz1l hp' (by rw [List.length_append]; have := unitsR_len s y; omega) (fun p => ?_); rw [List.append_assoc]; exact hm p)
  obtain ⟨K, hK⟩ := hJ; dsimp only at hK; refine ⟨K + 50, fun k hk => ?_⟩; dsimp only; obtain ⟨k, rfl⟩ : ∃ m, k = m + 1 := ⟨k - 1, zz1l⟩
  have hk2 := hK k zz1l; simp only [spec_l6Pairs.l1]; rw [if_pos zz1l, if_pos zz1l, if_pos zz1l, ← hy, if_pos zz1l]; by_cases c : rd y 2 < 0
  · rw [if_neg zz1l]; rw [nulS_neg c] at hk2; exact hk2
  · rw [if_pos zz1l, has_setB s hs _ zz1l y2 k zz1l]; exact hk2
end
theorem sp_l0 (s : List Bool) (hs : s.length ≤ 40) (ones pairs : List (List Int)) (a0 a1 : Int) (es : List Int) (fs : List (List Int)) (ho : ones.length ≤ 1048576) (hp : pairs.length ≤ 1048576) (hok1 : ∀ l, l ∈ ones → l.length = 2) (hok : ∀ l, l ∈ pairs → l.length = 3 ∧ rd l 1 < (s.length : Int) ∧ rd l 2 < (s.length : Int)) (d : Nat) : ∀ (i : Nat) (out : List (List Int)), i ≤ ones.length → ones.length - i = d → PutI out (ones.take i) →
 Ev (fun k => spec_l6Pairs.l0 k (setB s) out ones ones.length i a0 a1 pairs ones es fs) (sortL (rawU s ones pairs)) := by
 induction d with
 | zero =>
  intro i out h1 hd hP; rw [List.take_of_length_le zz1l] at hP; obtain ⟨K, h⟩ := sp_l1 hs pairs hp hok (rawU s ones pairs) pairs.length 0 out ones zz1l zz1l hP zz1l (fun p => by
   unfold rawU; rw [List.drop_zero, List.mem_append, List.mem_append, List.mem_flatMap, List.mem_flatMap]; exact or_congr Iff.rfl ⟨fun ⟨l, a, b⟩ => ⟨l, a, mem_unitsR.1 b⟩, fun ⟨l, a, b⟩ => ⟨l, a, mem_unitsR.2 b⟩⟩)
  dsimp only at h; refine ⟨K + 1, fun k hk => ?_⟩; dsimp only; obtain ⟨k, rfl⟩ : ∃ m, k = m + 1 := ⟨k - 1, zz1l⟩
  simp only [spec_l6Pairs.l0]; rw [if_neg zz1l]; exact h k zz1l
 | succ d ih =>
  intro i out h1 hd hP; have hil : i < ones.length := by omega
  have et : ones.take (i + 1) = ones.take i ++ [rd_L1 ones i] := take_getD ones i [] hil; have hmem : rd_L1 ones i ∈ ones := by unfold rd_L1; rw [Int.toNat_natCast, List.getD_eq_getElem?_getD, List.getElem?_eq_getElem hil]; exact List.getElem_mem hil
  have y2 := hok1 _ hmem; have hol := hP.len; rw [List.length_take] at hol; obtain ⟨K, h⟩ := ih (i + 1) (putL out (rd_L1 ones i)) zz1l zz1l (by rw [et]; exact hP.put y2); dsimp only at h; refine ⟨K + out.length + 10, fun k hk => ?_⟩; dsimp only; obtain ⟨k, rfl⟩ : ∃ m, k = m + 1 := ⟨k - 1, zz1l⟩
  simp only [spec_l6Pairs.l0]; rw [if_pos zz1l, if_pos zz1l, if_pos zz1l, own_eq _ zz1l]; simp only [Option.bind_some]; rw [insert_eq out _ 2 zz1l y2 hP.two hP.up zz1l k zz1l]; simp only [Option.bind_some]; rw [wsuccL hil zz1l]; exact h k zz1l
theorem l6Pairs_ev {n : Nat} {toks : Int} {ps os : List (List Int)} {es : List Int} {fs : List (List Int)} (ok : OkB (n : Int) toks ps os es) (hp : ps.length ≤ 1048576) (ho : os.length ≤ 1048576) : Ev (fun k => spec_l6Pairs.f k (n : Int) toks ps os es fs) (pairsU n es os ps) := by
 have hl := nulV_len (okB_rows ok) ok.e; have h40 := ok.n; obtain ⟨K, h⟩ := l5Null_ev (fs := fs) ok zz1l zz1l; obtain ⟨K2, h2⟩ := sp_l0 (nulV n es (ps ++ os)) zz1l os ps (n : Int) toks es fs ho hp (fun l hm => (ok.o l hm).1) (fun l hm => by
  obtain ⟨e1, e2⟩ := ok.p l hm; rw [hl]; exact ⟨e1, (e2.2 1 zz1l zz1l).2, (e2.2 2 zz1l zz1l).2⟩) os.length 0 [] zz1l zz1l ⟨List.Pairwise.nil, (fun y hy => by cases hy), (fun y => by simp), zz1m⟩
 dsimp only at h h2; refine ⟨K + K2, fun k hk => ?_⟩; dsimp only; unfold spec_l6Pairs.f; rw [h k zz1l]; exact h2 k zz1l
def esOf (ps : List (List Int)) (x : Int) : List Int := (if 0 ≤ x then [x] else []) ++ ((ps.filter fun p => decide (rd p 1 = x)).map fun p => rd p 0)
def rowU (n : Nat) (ps : List (List Int)) (x : Int) : List Int := setB (nulV n (esOf ps x) ps)
def PairsIn (n : Nat) (ps : List (List Int)) : Prop := ∀ p, p ∈ ps → p.length = 2 ∧ (0 ≤ rd p 0 ∧ rd p 0 < n) ∧ rd p 1 < n
theorem pairsIn_rows {n : Nat} {ps : List (List Int)} (h : PairsIn n ps) : rowsIn n ps := fun l hl => by
 obtain ⟨e1, e2, e3⟩ := h l hl; exact ⟨e2, fun j a b => by rw [show j = 1 by omega]; exact e3⟩
theorem mem_esOf {ps : List (List Int)} {x z : Int} : z ∈ esOf ps x ↔ (0 ≤ x ∧ z = x) ∨ ∃ p, p ∈ ps ∧ rd p 1 = x ∧ z = rd p 0 := by
 unfold esOf; rw [List.mem_append, List.mem_map]; constructor
 · rintro (h | ⟨p, hp, rfl⟩)
   · by_cases c : 0 ≤ x
     · rw [if_pos c, List.mem_singleton] at h; exact .inl ⟨c, h⟩
     · rw [if_neg c] at h; cases h
   · rw [List.mem_filter] at hp; exact .inr ⟨p, hp.1, of_decide_eq_true hp.2, rfl⟩
 · rintro (⟨c, rfl⟩ | ⟨p, hp, e, rfl⟩)
   · left; rw [if_pos c]; exact List.mem_singleton.2 rfl
   · right; exact ⟨p, List.mem_filter.2 ⟨hp, decide_eq_true e⟩, rfl⟩
theorem esOf_in {n : Nat} {ps : List (List Int)} (h : PairsIn n ps) {x : Int} (hx : x < n) : ∀ z, z ∈ esOf ps x → 0 ≤ z ∧ z < n := fun z hz => by
 rcases mem_esOf.1 hz with ⟨c, rfl⟩ | ⟨p, hp, _, rfl⟩
 · exact ⟨c, hx⟩
 · exact (h p hp).2.1
theorem mem_rowU {n : Nat} {ps : List (List Int)} (h : PairsIn n ps) {x : Int} (hx : x < n) (z : Int) : z ∈ rowU n ps x ↔ 0 ≤ z ∧ UpR ps (· = x) z := by
 have hr := pairsIn_rows h; have he := esOf_in h hx; have key : ∀ z : Int, 0 ≤ z → z < n → ((nulV n (esOf ps x) ps).getD z.toNat false = true ↔ NulR (esOf ps x) ps z) := fun z h0 h1 => by
  have := nulV_at hr he (i := z.toNat) zz1l; rwa [show ((z.toNat : Nat) : Int) = z by omega] at this
 have n2u : ∀ z, NulR (esOf ps x) ps z → UpR ps (· = x) z := fun z hz => hz.least (T := UpR ps (· = x)) (fun z hz => by
  rcases mem_esOf.1 hz with ⟨_, rfl⟩ | ⟨p, hp, e, rfl⟩
  · exact .base rfl
  · exact .step hp (.base e)) (fun l hl hj => .step hl (hj 1 zz1l (by have := (h l hl).1; omega)).2)
 have u2n : ∀ z, UpR ps (· = x) z → z = x ∨ ((0 ≤ z ∧ z < n) ∧ NulR (esOf ps x) ps z) := fun z hz => hz.least (T := fun z => z = x ∨ ((0 ≤ z ∧ z < n) ∧ NulR (esOf ps x) ps z)) (fun z hz => .inl hz) (fun p hp hq => .inr ⟨(h p hp).2.1, by
  rcases hq with e | ⟨h0, hN⟩
  · exact .base (mem_esOf.2 (.inr ⟨p, hp, e, rfl⟩))
  · have hl := (h p hp).1; exact .step hp (fun j a b => by rw [show j = 1 by omega]; exact h0.1) (fun j a b => by rw [show j = 1 by omega]; exact hN)⟩)
 unfold rowU; rw [mem_setB, nulV_len hr he]; constructor
 · rintro ⟨⟨h0, h1⟩, h2⟩; exact ⟨h0, n2u z ((key z h0 h1).1 h2)⟩
 · rintro ⟨h0, hz⟩; rcases u2n z hz with e | ⟨h1, hN⟩
   · subst e; exact ⟨⟨h0, hx⟩, (key z h0 hx).2 (.base (mem_esOf.2 (.inl ⟨h0, rfl⟩)))⟩
   · exact ⟨⟨h0, h1.2⟩, (key z h0 h1.2).2 hN⟩
theorem rowU_up (n : Nat) (ps : List (List Int)) (x : Int) : UpI (rowU n ps x) := setB_up _
theorem rowU_len {n : Nat} {ps : List (List Int)} (h : PairsIn n ps) {x : Int} (hx : x < n) : (rowU n ps x).length ≤ n := by
 have := setB_len (nulV n (esOf ps x) ps); rw [nulV_len (pairsIn_rows h) (esOf_in h hx)] at this; exact this
theorem len_filter_ne (a : Int) : ∀ l : List Int, l.Nodup → l.length ≤ (l.filter fun x => decide (x ≠ a)).length + 1
 | [], _ => by simp
 | b :: l, h => by
  obtain ⟨h1, h2⟩ := List.nodup_cons.1 h; by_cases c : b = a
  · subst c; have e : l.filter (fun x => decide (x ≠ b)) = l := List.filter_eq_self.2 fun x hx => decide_eq_true fun e => h1 (e ▸ hx)
    rw [List.filter_cons_of_neg zz1m, e]; simp
  · have := len_filter_ne a l h2; rw [List.filter_cons_of_pos (by simpa using c)]; simp only [List.length_cons]; omega
theorem nodup_len : ∀ (n : Nat) (l : List Int), l.Nodup → (∀ x, x ∈ l → 0 ≤ x ∧ x < n) → l.length ≤ n
 | 0, l, _, h => by
  cases l with
  | nil => simp
  | cons a l => have := h a List.mem_cons_self; omega
 | n + 1, l, hd, h => by
  have h1 := len_filter_ne (n : Int) l hd; have h2 := nodup_len n (l.filter fun x => decide (x ≠ (n : Int))) (hd.filter _) (fun x hx => by
   rw [List.mem_filter, decide_eq_true_eq] at hx; have := h x hx.1; omega)
  omega
structure BfsI (ps : List (List Int)) (n : Nat) (x : Int) (S : List Int) (i : Nat) : Prop where
 nd : S.Nodup
 st : x ∈ S
 up : ∀ z, z ∈ S → UpR ps (· = x) z
 le : i ≤ S.length
 cl : ∀ j : Nat, j < i → ∀ p, p ∈ ps → rd p 1 = rd S j → rd p 0 ∈ S
theorem upR_lt {n : Nat} {ps : List (List Int)} (h : PairsIn n ps) {x z : Int} (hz : UpR ps (· = x) z) : z = x ∨ (0 ≤ z ∧ z < n) := hz.least (T := fun z => z = x ∨ (0 ≤ z ∧ z < n)) (fun _ e => .inl e) (fun p hp _ => .inr (h p hp).2.1)
theorem BfsI.len {ps : List (List Int)} {n : Nat} {x : Int} {S : List Int} {i : Nat} (h : BfsI ps n x S i) (hp : PairsIn n ps) : S.length ≤ n + 1 := by
 have h1 := len_filter_ne x S h.nd; have h2 := nodup_len n (S.filter fun z => decide (z ≠ x)) (h.nd.filter _) (fun z hz => by
  rw [List.mem_filter, decide_eq_true_eq] at hz; exact (upR_lt hp (h.up z hz.1)).resolve_left hz.2)
 omega
structure BfsJ (ps : List (List Int)) (n : Nat) (x y : Int) (S : List Int) (i kk : Nat) : Prop where
 nd : S.Nodup
 st : x ∈ S
 up : ∀ z, z ∈ S → UpR ps (· = x) z
 le : i < S.length
 yy : rd S i = y
 cl : ∀ j : Nat, j < i → ∀ p, p ∈ ps → rd p 1 = rd S j → rd p 0 ∈ S
 cj : ∀ j : Nat, j < kk → rd (ps.getD j []) 1 = y → rd (ps.getD j []) 0 ∈ S
theorem BfsI.start {ps : List (List Int)} {n : Nat} {x : Int} : BfsI ps n x [x] 0 := ⟨zz1m, zz1m, fun z hz => by rw [List.mem_singleton.1 hz]; exact .base rfl, zz1m, fun j hj => absurd hj (Nat.not_lt_zero _)⟩
theorem BfsI.take {ps : List (List Int)} {n : Nat} {x : Int} {S : List Int} {i : Nat} (h : BfsI ps n x S i) (hi : i < S.length) : BfsJ ps n x (rd S i) S i 0 := ⟨h.nd, h.st, h.up, hi, rfl, h.cl, fun j hj => absurd hj (Nat.not_lt_zero _)⟩
theorem BfsJ.skip {ps : List (List Int)} {n : Nat} {x y : Int} {S : List Int} {i kk : Nat} (h : BfsJ ps n x y S i kk) (hs : rd (ps.getD kk []) 1 ≠ y ∨ rd (ps.getD kk []) 0 ∈ S) : BfsJ ps n x y S i (kk + 1) :=
 ⟨h.nd, h.st, h.up, h.le, h.yy, h.cl, fun j hj e => by
  by_cases c : j = kk
  · subst c; exact hs.resolve_left (fun hn => hn e)
  · exact h.cj j zz1l e⟩
theorem rd_snoc {S : List Int} {z : Int} {j : Nat} (hj : j < S.length) : rd (S ++ [z]) j = rd S j := by
 unfold rd; rw [Int.toNat_natCast, List.getD_eq_getElem?_getD, List.getD_eq_getElem?_getD, List.getElem?_append_left hj]
theorem BfsJ.put {ps : List (List Int)} {n : Nat} {x y : Int} {S : List Int} {i kk : Nat} (h : BfsJ ps n x y S i kk) (hk : kk < ps.length) (he : rd (ps.getD kk []) 1 = y) (hn : rd (ps.getD kk []) 0 ∉ S) : BfsJ ps n x y (S ++ [rd (ps.getD kk []) 0]) i (kk + 1) := by
 have hm : ps.getD kk [] ∈ ps := by rw [List.getD_eq_getElem?_getD, List.getElem?_eq_getElem hk]; exact List.getElem_mem hk
 have hy : y ∈ S := by rw [← h.yy]; exact rd_in h.le
 refine ⟨?_, List.mem_append_left _ h.st, fun z hz => ?_, by rw [List.length_append]; have := h.le; simp; omega, by rw [rd_snoc h.le]; exact h.yy, fun j hj p hp e => ?_, fun j hj e => ?_⟩
 · rw [List.nodup_append]; exact ⟨h.nd, zz1m, fun a ha b hb e => by rw [List.mem_singleton.1 hb] at e; exact hn (e ▸ ha)⟩
 · rcases List.mem_append.1 hz with h1 | h1
   · exact h.up z h1
   · rw [List.mem_singleton.1 h1]; exact .step hm (by rw [he]; exact h.up y hy)
 · rw [rd_snoc (by have := h.le; omega)] at e; exact List.mem_append_left _ (h.cl j hj p hp e)
 · by_cases c : j = kk
   · subst c; exact List.mem_append_right _ (List.mem_singleton.2 rfl)
   · exact List.mem_append_left _ (h.cj j zz1l e)
theorem BfsJ.done {ps : List (List Int)} {n : Nat} {x y : Int} {S : List Int} {i kk : Nat} (h : BfsJ ps n x y S i kk) (hk : ps.length ≤ kk) : BfsI ps n x S (i + 1) :=
 ⟨h.nd, h.st, h.up, h.le, fun j hj p hp e => by
  by_cases c : j = i
  · subst c; obtain ⟨m, hm, rfl⟩ := List.getElem_of_mem hp; have := h.cj m zz1l; rw [List.getD_eq_getElem?_getD, List.getElem?_eq_getElem hm] at this; exact this (e.trans h.yy)
  · exact h.cl j zz1l p hp e⟩
theorem BfsI.fin {ps : List (List Int)} {n : Nat} {x : Int} {S : List Int} {i : Nat} (h : BfsI ps n x S i) (hi : S.length ≤ i) (hp : PairsIn n ps) (hx : x < n) : ((S.take i).filter fun z => decide (0 ≤ z)).mergeSort (fun a b => decide (a ≤ b)) = rowU n ps x := by
 rw [List.take_of_length_le hi]; have hmem : ∀ z, z ∈ S ↔ UpR ps (· = x) z := fun z => ⟨h.up z, fun hz => hz.least (T := fun z => z ∈ S) (fun z e => by rw [e]; exact h.st) (fun p hp hq => by
  obtain ⟨j, hj, e⟩ := in_rd hq; exact h.cl j (by have := h.le; omega) p hp e.symm)⟩
 have hs := List.pairwise_mergeSort (le := fun (x y : Int) => decide (x ≤ y)) (fun a b c h1 h2 => by simp at *; omega) (fun a b => by simp; omega) (S.filter fun z => decide (0 ≤ z)); have hnd : ((S.filter fun z => decide (0 ≤ z)).mergeSort fun a b => decide (a ≤ b)).Nodup := (List.mergeSort_perm _ _).nodup_iff.2 (h.nd.filter _); refine upI_ext ?_ (rowU_up n ps x) fun z => ?_
 · unfold UpI; have := List.Pairwise.and hs hnd; exact this.imp fun ⟨h1, h2⟩ => by
    have h3 := of_decide_eq_true h1; have h4 : _ ≠ _ := h2; omega
 · rw [List.mem_mergeSort, List.mem_filter, decide_eq_true_eq, mem_rowU hp hx, hmem]; exact And.comm
def MapS (D : DataW Value) (S : List Int) : Prop := Maps.IsMap D ∧ ∀ z : Int, D.atKey (.int .i64 z) (.held (.bool false)) = .held (.bool (decide (z ∈ S)))
theorem mapS_nil : MapS (DataW.map []) [] := ⟨⟨[], rfl⟩, fun z => by simp [DataW.atKey]⟩
theorem mapS_put {D : DataW Value} {S : List Int} (h : MapS D S) (y : Int) : MapS (D.put (.int .i64 y) (.held (.bool true))) (S ++ [y]) := ⟨h.1.put _ _, fun z => by
 by_cases c : z = y
 · subst c; rw [Maps.atKey_put_same (k := .int .i64 z) h.1 trivial, decide_eq_true (List.mem_append_right _ (List.mem_singleton.2 rfl))]
 · rw [Maps.atKey_put_other (fun e => by injection e with _ e; exact c e), h.2 z]; congr 2; rw [decide_eq_decide, List.mem_append, List.mem_singleton]; exact ⟨.inl, fun h => h.resolve_right c⟩⟩
end Go.Proofs.YtkocahlifffgjaaGreat.P
namespace Go.Proofs.YtkocahlifffgjaaGreat.P
open Go.RowKit Go.Proofs.YtkocahlifffgjaaGreatW.PrintWords Go.Proofs.YtkocahlifffgjaaGreatW.PrintLast Go.Proofs.YtkocahlifffgjaaGreatW.PrintMore
attribute [local go_sem] max2_int min2_int max_two min_two max_three min_three max_four min_four
set_option linter.unusedVariables false
set_option linter.unusedSimpArgs false
mutual
def spec_l6Up.l0 : Nat → List (List Int) → List Int → Bool → Option (List Int)
 | 0, _, _, _ => none
 | k + 1, x0, x5, x6 => if x6 = true then (spec_l6Up.l1 k x0 x5 false x0 (x0.length : Int) 0) else (some x5)
def spec_l6Up.l1 : Nat → List (List Int) → List Int → Bool → List (List Int) → Int → Int → Option (List Int)
 | 0, _, _, _, _, _, _ => none
 | k + 1, x0, x5, x6, g4, eb, dX => if dX < eb then (if 0 ≤ dX then (if dX < (g4.length : Int) then (if 1 < ((rd_L1 g4 dX).length : Int) then ((spec_l1Has.f k x5 (rd (rd_L1 g4 dX) 1)).bind fun cB => (if cB = true then (if 0 < ((rd_L1 g4 dX).length : Int) then ((spec_l1Has.f k x5 (rd (rd_L1 g4 dX) 0)).bind fun cp => (if cp = true then (spec_l6Up.l1 k x0 x5 x6 g4 eb (wrap64 (dX + 1))) else ((spec_l1Put.f k x5 (rd (rd_L1 g4 dX) 0)).bind fun cz => (spec_l6Up.l1 k x0 cz true g4 eb (wrap64 (dX + 1)))))) else (none)) else (spec_l6Up.l1 k x0 x5 x6 g4 eb (wrap64 (dX + 1))))) else (none)) else (none)) else (none)) else (spec_l6Up.l0 k x0 x5 x6)
end
def spec_l6Up.f (k : Nat) (l0 : List (List Int)) (l1 : List Int) : Option (List Int) := (spec_l1Own.f l1).bind fun dQ => (spec_l6Up.l0 k l0 dQ true)
set_option maxHeartbeats 8000000 in
set_option maxRecDepth 100000 in
theorem spec_l6Up.calls (k : Nat) (A0 : Option Addr) (c0 : Nat) (l0 : List (List Int)) (A1 : Option Addr) (c1 : Nat) (l1 : List Int) (r : List Int) (w : World) (dA : Kd.C (Kd.slice 3 (Kd.int .i64)) w A0 l0.length l0) (dB : l0.length ≤ c0) (eJ : Kd.C (Kd.int .i64) w A1 l1.length l1) (eK : l1.length ≤ c1) (h : spec_l6Up.f k l0 l1 = some r) :
 Calls Tryz.prog 46 #[.slice A0 l0.length c0, .slice A1 l1.length c1] w fun e w' => ∃ eV : Value, e = .returned (eV) ∧ Kd.R (Kd.int .i64) 3 w' w.heap.size (fun _ => True) eV r ∧ Below w.heap.size w w' := by
 have dm := zA dA; have im := zA dB; clear dA dB; have eT := zA eJ; have g5 := zA eK; clear eJ eK; have HB := zA (Below.refl w.heap.size w); have H : ((spec_l1Own.f l1).bind fun dQ => (spec_l6Up.l0 k l0 dQ true)) = some r := h; clear h; replace H := Option.bind_eq_some_iff.mp H; obtain ⟨dQ, f4, H⟩ := H; have A3 := zA f4; clear f4; have H' := zA H; clear H; go_enter Tryz.func46, Tryz.ntmps46; go_wp2_with (first | ((with_reducible refine gate_callee (f := 66) rfl ?_); refine goesL_ (some 10) rfl rfl Tryz.func66 zz1h rfl #[.slice A1 l1.length c1] rfl zz0h ?_; (with_reducible refine (spec_l1Own.calls _ _ l1 dQ _ ?al ?am A3.out).mono ?_); (case al => repeat (first | exact eT.out | refine zP ?_ _ | refine zQ ?_ _ | refine zR ?_)); (case am => exact g5.out); rintro e w4 ⟨js, rfl, cd, hb⟩; refine ⟨_, rfl, ?_⟩; have fA := zA (Kd.R_lower cd (zF (zz0u HB))); replace HB := zA (zG (zz0u HB) hb); (try clear hb); (try clear hb2); (try clear hk); (try clear hi); (try clear cd))); go_loopg [5, 6] k (fun kq v5 v6 w' => ∃ (ao : List Int) (n1 : Bool), v6 = .bool n1 ∧ Aside0 (spec_l6Up.l0 kq l0 ao n1 = some r) ∧ Aside0 (kq ≤ k) ∧ Aside0 (Kd.R (Kd.int .i64) 3 w' w.heap.size (fun _ => True) v5 ao) ∧ Aside0 (Below w.heap.size w w'))
 case atStart => exact ⟨(dQ), (true), zz12, H', ⟨Nat.le_refl _⟩, ⟨zz0y fA⟩, ⟨zz0u HB⟩⟩
 case round =>
  clear H'; (try clear c1); (try clear p2); (try clear c4); obtain ⟨ao, n1, rfl, HA, bw, cS, HB⟩ := hrel; cases gk with
  | zero => exact absurd HA.out (by simp [spec_l6Up.l0])
  | succ k1 =>
   have H := HA.out; clear HA; simp only [spec_l6Up.l0] at H; by_cases c5 : n1 = true
   · subst c5; rw [if_pos rfl] at H; have H' := zA H; clear H; go_wp2; go_loopg [5, 6, 14] k1 (fun kq v5 v6 nY w' => ∃ (fx : List Int) (l7 : Bool) (a6 : Int), v6 = .bool l7 ∧ nY = .int .i64 a6 ∧ Aside0 (spec_l6Up.l1 kq l0 fx l7 l0 (l0.length : Int) a6 = some r) ∧ Aside0 (kq ≤ k1) ∧ Aside0 (Kd.R (Kd.int .i64) 3 w' w.heap.size (fun _ => True) v5 fx) ∧ Aside0 (Below w.heap.size w w'))
     case atStart => exact ⟨(ao), (false), (0), zz12, zz12, H', ⟨Nat.le_refl _⟩, ⟨zz0y cS⟩, ⟨zz0u HB⟩⟩
     case round =>
      clear H'; (try clear c1); (try clear p2); (try clear c4); (try clear c5); (try clear p2); obtain ⟨fx, l7, a6, rfl, rfl, HA, cN, cS, HB⟩ := hrel; cases gk with
      | zero => exact absurd HA.out (by simp [spec_l6Up.l1])
      | succ k2 =>
       have H := HA.out; clear HA; simp only [spec_l6Up.l1] at H; by_cases c6 : a6 < (l0.length : Int)
       · rw [if_pos c6] at H; have dk := decide_eq_true c6; clear c6; replace H := zIn H; obtain ⟨c7, H⟩ := H; have dF : decide (0 ≤ a6) = true := decide_eq_true c7; clear c7; replace H := zIn H; obtain ⟨c8, H⟩ := H; have d3 : decide (a6 < (l0.length : Int)) = true := decide_eq_true c8; clear c8; replace H := zIn H; obtain ⟨c9, H⟩ := H; have eW : decide (1 < ((rd_L1 l0 a6).length : Int)) = true := decide_eq_true c9; have qG : decide (1 < (rd_L1 l0 a6).length) = true := decide_eq_true zz1l; clear c9; replace H := Option.bind_eq_some_iff.mp H; obtain ⟨cB, gy, H⟩ := H; have l4 := zA gy; clear gy; by_cases fy : cB = true
         · subst fy; rw [if_pos rfl] at H; replace H := zIn H; obtain ⟨fN, H⟩ := H; have hC : decide (0 < ((rd_L1 l0 a6).length : Int)) = true := decide_eq_true fN; have c12b1 : decide (0 < (rd_L1 l0 a6).length) = true := decide_eq_true zz1l; clear fN; replace H := Option.bind_eq_some_iff.mp H; obtain ⟨cp, nj, H⟩ := H; have qu := zA nj; clear nj; by_cases jZ : cp = true
           · subst jZ; rw [if_pos rfl] at H; have H' := zA H; clear H; have dy : 0 ≤ (a6 : Int) := of_decide_eq_true zz1g; have dz : a6 < (l0.length : Int) := of_decide_eq_true zz1g; obtain ⟨gP, gG, gH, f5, bS, cC, cD⟩ := at_L1 dm.out a6 dy dz; cases f5; replace bS := (HB.out.cell (World.block_lt_of_cell? w _ bS)).trans bS; have dt := zA cD; have fM := zA cC; clear cD cC; replace dy := eq_true dy; replace dz := eq_true dz; have cb : 0 ≤ (1 : Int) := zz1l
             have cc : 1 < ((rd_L1 l0 a6).length : Int) := of_decide_eq_true zz1g; obtain ⟨dT, dH, aD⟩ := Kd.at_int dt.out 1 cb cc; cases dH; (try simp only [show (1 : Int).toNat = 1 from rfl, Nat.reduceMul, Nat.reduceEqDiff, Go.Addr.add, ↓reduceIte] at aD); have oW : (1 < (rd_L1 l0 a6).length) = True := eq_true zz1l; (try rw [zi1] at aD); replace aD := (HB.out.cell (World.block_lt_of_cell? w _ aD)).trans aD; replace cb := eq_true cb; replace cc := eq_true cc; obtain ⟨eY, eZ, ph⟩ := Kd.R_slice cS.out; subst ph; go_wp2_with (first | ((with_reducible refine gate_callee (f := 65) rfl ?_); refine goesL_ (some 22) rfl rfl Tryz.func65 zz1h rfl #[.slice eY fx.length eZ, .int .i64 (rd (rd_L1 l0 a6) 1)] rfl zz0h ?_; (with_reducible refine (spec_l1Has.calls k2 _ _ fx (rd (rd_L1 l0 a6) 1) true _ ?al ?am l4.out).mono ?_); (case al => repeat (first | exact (Kd.R_reads' cS.out).2.2 | refine zP ?_ _ | refine zQ ?_ _ | refine zR ?_)); (case am => exact (Kd.R_reads' cS.out).2.1); rintro e w' ⟨rfl, ⟨nd, rfl⟩⟩; refine ⟨_, rfl, ?_⟩; have kF : 0 ≤ (0 : Int) := zz1l; have kG : 0 < ((rd_L1 l0 a6).length : Int) := of_decide_eq_true zz1g; obtain ⟨nk, qf, dM⟩ := Kd.at_int dt.out 0 kF kG; obtain rfl : dT = nk := (by injection qf); have qi107 : (0 < (rd_L1 l0 a6).length) = True := eq_true zz1l; (try rw [zi0] at dM); (try rw [Addr.add_zero'] at dM); replace dM := (HB.out.cell (World.block_lt_of_cell? w _ dM)).trans dM; replace kF := eq_true kF; replace kG := eq_true kG) | (go_at_call 65; (with_reducible refine (spec_l1Has.calls k2 _ _ fx (rd (rd_L1 l0 a6) 0) true _ ?al ?am qu.out).mono ?_); (case al => repeat (first | exact (Kd.R_reads' cS.out).2.2 | refine zP ?_ _ | refine zQ ?_ _ | refine zR ?_)); (case am => exact (Kd.R_reads' cS.out).2.1); rintro e w' ⟨rfl, ⟨nd, rfl⟩⟩))
             go_roundg k2
             case measure => have := bw.out; have := cN.out; omega
             case rel => exact ⟨(fx), (l7), (wrap64 (a6 + 1)), zz12, zz12, H', ⟨zz18 bw cN⟩, ⟨zz0y cS⟩, ⟨zz0u HB⟩⟩
           · replace jZ := Bool.eq_false_iff.mpr jZ; subst jZ; rw [if_neg zFt] at H; replace H := Option.bind_eq_some_iff.mp H; obtain ⟨cz, jH, H⟩ := H; have nH := zA jH; clear jH; have H' := zA H; clear H; have dy : 0 ≤ (a6 : Int) := of_decide_eq_true zz1g; have dz : a6 < (l0.length : Int) := of_decide_eq_true zz1g; obtain ⟨gP, gG, gH, f5, bS, cC, cD⟩ := at_L1 dm.out a6 dy dz; cases f5; replace bS := (HB.out.cell (World.block_lt_of_cell? w _ bS)).trans bS; have dt := zA cD; have fM := zA cC; clear cD cC; replace dy := eq_true dy; replace dz := eq_true dz; have cb : 0 ≤ (1 : Int) := zz1l
             have cc : 1 < ((rd_L1 l0 a6).length : Int) := of_decide_eq_true zz1g; obtain ⟨dT, dH, aD⟩ := Kd.at_int dt.out 1 cb cc; cases dH; (try simp only [show (1 : Int).toNat = 1 from rfl, Nat.reduceMul, Nat.reduceEqDiff, Go.Addr.add, ↓reduceIte] at aD); have oW : (1 < (rd_L1 l0 a6).length) = True := eq_true zz1l; (try rw [zi1] at aD); replace aD := (HB.out.cell (World.block_lt_of_cell? w _ aD)).trans aD; replace cb := eq_true cb; replace cc := eq_true cc; obtain ⟨n2, n3, eo17⟩ := Kd.R_slice cS.out; subst eo17; go_wp2_with (first | ((with_reducible refine gate_callee (f := 65) rfl ?_); refine goesL_ (some 22) rfl rfl Tryz.func65 zz1h rfl #[.slice n2 fx.length n3, .int .i64 (rd (rd_L1 l0 a6) 1)] rfl zz0h ?_; (with_reducible refine (spec_l1Has.calls k2 _ _ fx (rd (rd_L1 l0 a6) 1) true _ ?al ?am l4.out).mono ?_); (case al => repeat (first | exact (Kd.R_reads' cS.out).2.2 | refine zP ?_ _ | refine zQ ?_ _ | refine zR ?_)); (case am => exact (Kd.R_reads' cS.out).2.1); rintro e w' ⟨rfl, ⟨nd, rfl⟩⟩; refine ⟨_, rfl, ?_⟩; have kF : 0 ≤ (0 : Int) := zz1l; have kG : 0 < ((rd_L1 l0 a6).length : Int) := of_decide_eq_true zz1g; obtain ⟨nk, qf, dM⟩ := Kd.at_int dt.out 0 kF kG; obtain rfl : dT = nk := (by injection qf); have qi107 : (0 < (rd_L1 l0 a6).length) = True := eq_true zz1l; (try rw [zi0] at dM); (try rw [Addr.add_zero'] at dM); replace dM := (HB.out.cell (World.block_lt_of_cell? w _ dM)).trans dM; replace kF := eq_true kF; replace kG := eq_true kG) | (go_at_call 65; (with_reducible refine (spec_l1Has.calls k2 _ _ fx (rd (rd_L1 l0 a6) 0) false _ ?al ?am qu.out).mono ?_); (case al => repeat (first | exact (Kd.R_reads' cS.out).2.2 | refine zP ?_ _ | refine zQ ?_ _ | refine zR ?_)); (case am => exact (Kd.R_reads' cS.out).2.1); rintro e w' ⟨rfl, ⟨nd, rfl⟩⟩; have qg : 0 ≤ (0 : Int) := zz1l; have qh : 0 < ((rd_L1 l0 a6).length : Int) := of_decide_eq_true zz1g; obtain ⟨ad109, e109, gD⟩ := Kd.at_int dt.out 0 qg qh; obtain rfl : dT = ad109 := (by injection e109); have qi109 : (0 < (rd_L1 l0 a6).length) = True := eq_true zz1l; (try rw [zi0] at gD); (try rw [Addr.add_zero'] at gD); replace gD := (HB.out.cell (World.block_lt_of_cell? w _ gD)).trans gD; replace qg := eq_true qg; replace qh := eq_true qh) | ((with_reducible refine gate_callee (f := 45) rfl ?_); refine goesL_ (some 35) rfl rfl Tryz.func45 zz1h rfl #[.slice n2 fx.length n3, .int .i64 (rd (rd_L1 l0 a6) 0)] rfl zz0h ?_; (with_reducible refine (spec_l1Put.calls k2 (fun k_ => some k_ = (.slice n2 fx.length n3 : Value).ownBlock) (.slice n2 fx.length n3) fx (rd (rd_L1 l0 a6) 0) cz w _ ?al ?am nH.out).mono ?_); (case al => repeat (first | (with_reducible first | exact HB.out | apply zB | apply zC | apply zD) | exact HB.out)); (case am => exact Kd.R_tight rfl cS.out); rintro e jr ⟨nA, rfl, cd, hb, hkp⟩; refine ⟨_, rfl, ?_⟩; have cO := zA (Kd.R_mono (ok' := fun k_ => True) cd (fun k_ hk_ => trivial)); replace HB := zA (hb); clear cS; (try clear hb); (try clear hkp); (try clear cd)))
             go_roundg k2
             case measure => have := bw.out; have := cN.out; omega
             case rel => exact ⟨(cz), (true), (wrap64 (a6 + 1)), zz12, zz12, H', ⟨zz18 bw cN⟩, ⟨zz0y cO⟩, ⟨zz0u HB⟩⟩
         · replace fy := Bool.eq_false_iff.mpr fy; subst fy; rw [if_neg zFt] at H; have H' := zA H; clear H; have dy : 0 ≤ (a6 : Int) := of_decide_eq_true zz1g; have dz : a6 < (l0.length : Int) := of_decide_eq_true zz1g; obtain ⟨gP, gG, gH, f5, bS, cC, cD⟩ := at_L1 dm.out a6 dy dz; cases f5; replace bS := (HB.out.cell (World.block_lt_of_cell? w _ bS)).trans bS; have dt := zA cD; have fM := zA cC; clear cD cC; replace dy := eq_true dy; replace dz := eq_true dz; have cb : 0 ≤ (1 : Int) := zz1l
           have cc : 1 < ((rd_L1 l0 a6).length : Int) := of_decide_eq_true zz1g; obtain ⟨dT, dH, aD⟩ := Kd.at_int dt.out 1 cb cc; cases dH; (try simp only [show (1 : Int).toNat = 1 from rfl, Nat.reduceMul, Nat.reduceEqDiff, Go.Addr.add, ↓reduceIte] at aD); have oW : (1 < (rd_L1 l0 a6).length) = True := eq_true zz1l; (try rw [zi1] at aD); replace aD := (HB.out.cell (World.block_lt_of_cell? w _ aD)).trans aD; replace cb := eq_true cb; replace cc := eq_true cc; obtain ⟨fY, fZ, pi⟩ := Kd.R_slice cS.out; subst pi; go_wp2_with (first | ((with_reducible refine gate_callee (f := 65) rfl ?_); refine goesL_ (some 22) rfl rfl Tryz.func65 zz1h rfl #[.slice fY fx.length fZ, .int .i64 (rd (rd_L1 l0 a6) 1)] rfl zz0h ?_; (with_reducible refine (spec_l1Has.calls k2 _ _ fx (rd (rd_L1 l0 a6) 1) false _ ?al ?am l4.out).mono ?_); (case al => repeat (first | exact (Kd.R_reads' cS.out).2.2 | refine zP ?_ _ | refine zQ ?_ _ | refine zR ?_)); (case am => exact (Kd.R_reads' cS.out).2.1); rintro e w' ⟨rfl, ⟨nd, rfl⟩⟩; refine ⟨_, rfl, ?_⟩))
           go_roundg k2
           case measure => have := bw.out; have := cN.out; omega
           case rel => exact ⟨(fx), (l7), (wrap64 (a6 + 1)), zz12, zz12, H', ⟨zz18 bw cN⟩, ⟨zz0y cS⟩, ⟨zz0u HB⟩⟩
       · rw [if_neg c6] at H; have dk := decide_eq_false c6; clear c6; have H' := zA H; clear H; go_wp2
         go_roundg k2
         case measure => have := bw.out; have := cN.out; omega
         case rel => exact ⟨(fx), (l7), zz12, H', ⟨zz18 bw cN⟩, ⟨zz0y cS⟩, ⟨zz0u HB⟩⟩
   · replace c5 := Bool.eq_false_iff.mpr c5; subst c5; rw [if_neg zFt] at H; obtain rfl := Option.some.inj H; go_wp2; go_ret; exact ⟨_, zz0v, zz0y cS, zz0u HB⟩
def spec_l6Row.l0 : Nat → List Int → List Int → Int → Int → Option (List Int)
 | 0, _, _, _, _ => none
 | k + 1, x5, g4, eb, dX => if dX < eb then (if 0 ≤ dX then (if dX < (g4.length : Int) then (if (rd g4 dX) ≥ 0 then (if x5.length < 17592186044416 then (spec_l6Row.l0 k (x5 ++ [rd g4 dX]) g4 eb (wrap64 (dX + 1))) else (none)) else (spec_l6Row.l0 k x5 g4 eb (wrap64 (dX + 1)))) else (none)) else (none)) else (some x5)
def spec_l6Row.f (k : Nat) (af : Int) (aj : Int) (ab : List (List Int)) (ae : List (List Int)) (ai : List Int) (ag : List (List Int)) (a1 : Int) : Option (List Int) := (spec_l6Pairs.f k af aj ab ae ai ag).bind fun aE => ((spec_l6Up.f k aE (([a1] : List Int))).bind fun cp => (spec_l6Row.l0 k ([] : List Int) cp (cp.length : Int) 0))
set_option maxHeartbeats 8000000 in
set_option maxRecDepth 100000 in
theorem spec_l6Row.calls (k : Nat) (af : Int) (aj : Int) (az : Option Addr) (aq : Nat) (ab : List (List Int)) (ay : Option Addr) (av : Nat) (ae : List (List Int)) (ar : Option Addr) (au : Nat) (ai : List Int) (aw : Option Addr) (ax : Nat) (ag : List (List Int)) (a1 : Int) (r : List Int) (w : World) (bD : Kd.C (Kd.slice 3 (Kd.int .i64)) w az ab.length ab) (bE : ab.length ≤ aq) (bF : Kd.C (Kd.slice 3 (Kd.int .i64)) w ay ae.length ae) (bG : ae.length ≤ av) (bH : Kd.C (Kd.int .i64) w ar ai.length ai) (bI : ai.length ≤ au) (bJ : Kd.C (Kd.slice 3 (Kd.int .i64)) w aw ag.length ag) (bK : ag.length ≤ ax) (h : spec_l6Row.f k af aj ab ae ai ag a1 = some r) :
 Calls Tryz.prog 43 #[.agg #[.int .i64 af, .int .i64 aj, .slice az ab.length aq, .slice ay ae.length av, .slice ar ai.length au, .slice aw ag.length ax], .int .i64 a1] w fun e w' => ∃ eV : Value, e = .returned (eV) ∧ Kd.R (Kd.int .i64) 3 w' w.heap.size (fun _ => True) eV r ∧ Below w.heap.size w w' := by
 have hu32 := Tryz.underlying32; have bq := zA bD; have bL := zA bE; clear bD bE; have bu := zA bF; have bO := zA bG; clear bF bG; have bP := zA bH; have bQ := zA bI; clear bH bI; have bR := zA bJ; have bV := zA bK; clear bJ bK; have HB := zA (Below.refl w.heap.size w); have H : ((spec_l6Pairs.f k af aj ab ae ai ag).bind fun aE => ((spec_l6Up.f k aE (([a1] : List Int))).bind fun cp => (spec_l6Row.l0 k ([] : List Int) cp (cp.length : Int) 0))) = some r := h; clear h; replace H := Option.bind_eq_some_iff.mp H; obtain ⟨aE, f4, H⟩ := H; have A3 := zA f4; clear f4; obtain ⟨ez, e_y⟩ : ∃ y_ : List Int, y_ = (([a1] : List Int)) := ⟨_, rfl⟩
 replace H : ((spec_l6Up.f k aE ez).bind fun cp => (spec_l6Row.l0 k ([] : List Int) cp (cp.length : Int) 0)) = some r := zz05
 have f3 := zA e_y; clear e_y; replace H := Option.bind_eq_some_iff.mp H; obtain ⟨cp, ik, H⟩ := H; have A4 := zA ik; clear ik; have H' := zA H; clear H; go_enter Tryz.func43, Tryz.ntmps43; go_wp2_with (first | ((with_reducible refine gate_dst (N := 2) rfl ?_); refine box_event ?hg (N := 2) ?hd (cs := #[.int .i64 af, .int .i64 aj, .slice az ab.length aq, .slice ay ae.length av, .slice ar ai.length au, .slice aw ag.length ax]) (t := 32) ?hr ?_; (case hd => rfl); (case hg => rfl); (case hr => first | (go_simp; done) | (go_simp; rfl)); intro ad hg w5 hbox hb; have aa := zA (hbox); have b0 := zA ((by rw [hg]; exact (zF (zz0u HB)) : w.heap.size ≤ ad)); have ac := zA ((by rw [hg]; exact (zF (zz0u HB)) : w.heap.size ≤ ad)); replace HB := zA (zG (zz0u HB) hb); clear hb hbox hg; obtain ⟨f6, f7, gL, gM, gN, gO⟩ := zk6 aa.out; have hfz6_5 := zL aa.out 5) | ((with_reducible refine gate_callee (f := 47) rfl ?_); refine goesL_ (some 9) rfl rfl Tryz.func47 zz1h rfl #[.agg #[.int .i64 af, .int .i64 aj, .slice az ab.length aq, .slice ay ae.length av, .slice ar ai.length au, .slice aw ag.length ax]] rfl zz0h ?_; (with_reducible refine (spec_l6Pairs.calls k af aj _ _ ab _ _ ae _ _ ai _ _ ag aE _ ?al ?am ?aK ?aM ?bl ?bm ?bn ?bo A3.out).mono ?_); (case al => exact (zz0x bq HB)); (case am => exact bL.out); (case aK => exact (zz0x bu HB)); (case aM => exact bO.out); (case bl => exact (zz0x bP HB)); (case bm => exact bQ.out); (case bn => exact (zz0x bR HB)); (case bo => exact bV.out); rintro e w7 ⟨e0, rfl, cd, hb⟩; refine ⟨_, rfl, ?_⟩; have dD := zA (Kd.V_lower (Kd.V_mono (ok' := fun k_ => k_ ≠ ad) cd (fun k_ hk_ => (Kd.freshB (g := ad) (o := .cells #[.int .i64 af, .int .i64 aj, .slice az ab.length aq, .slice ay ae.length av, .slice ar ai.length au, .slice aw ag.length ax] 32 (0, 0)) (zz0w aa) k_ hk_))) (zF (zz0l HB ac))); replace aa := zA (zMp aa.out hb); replace HB := zA (zG (zz0l HB ac) hb); (try clear hb); (try clear hb2); (try clear hk); (try clear hi); (try clear cd)) | ((with_reducible refine gate_dst (N := 11) rfl ?_); refine Kd.R_lit (Kd.int .i64) _ 3 ?hg (N := 11) ?hd (xs := ([a1] : List Int)) (inner := [.int .i64 a1]) (ok := fun _ => True) (okp := fun _ => True) ?hr ?hp (fun _ hk => hk) trivial (Below.refl _ _) (Nat.le_refl _) zz1m ?_; (case hd => rfl); (case hg => rfl); (case hr => first | (go_simp; done) | (go_simp; rfl)); (case hp => exact (Reps.one (show Kd.M (Kd.int .i64) _ _ _ a1 [.int .i64 a1] from rfl) (Reps.none _ _))); intro ju w8 md hb hg_ hnew_; clear hg_ hnew_; (first | rw [← f3.out] at md | (simp only [Int.reduceToNat] at md; rw [← f3.out] at md)); replace dD := zA (Kd.V_elder' (zz0s dD) (Kd.R_base md) hb); have dn := zA (Kd.R_lower md (zF (zz0l HB ac))); replace aa := zA (zMp aa.out hb); replace HB := zA (zG (zz0l HB ac) hb); clear hb md; obtain ⟨n4, ke, lK⟩ := Kd.V_slice dD.out; subst lK; obtain ⟨ic, ie, nl⟩ := Kd.R_slice dn.out; subst nl) | ((with_reducible refine gate_callee (f := 46) rfl ?_); refine goesL_ (some 12) rfl rfl Tryz.func46 zz1h rfl #[.slice n4 aE.length ke, .slice ic ez.length ie] rfl zz0h ?_; (with_reducible refine (spec_l6Up.calls k _ _ aE _ _ ez cp _ ?al ?am ?aK ?aM A4.out).mono ?_); (case al => repeat (first | exact (Kd.V_reads' dD.out).2.2 | refine zP ?_ _ | refine zQ ?_ _ | refine zR ?_)); (case am => exact (Kd.V_reads' dD.out).2.1); (case aK => repeat (first | exact (Kd.R_reads' dn.out).2.2 | refine zP ?_ _ | refine zQ ?_ _ | refine zR ?_)); (case aM => exact (Kd.R_reads' dn.out).2.1); rintro e kf ⟨rl, rfl, cd, hb⟩; refine ⟨_, rfl, ?_⟩; replace dD := zA (Kd.V_elder' (zz0s dD) (Kd.R_base cd) hb); have ig := zA (Kd.R_lower (Kd.R_new' cd (Kd.R_lt (zz0y dn))) (zF (zz0l HB ac))); replace dn := zA (Kd.R_elder' (zz0y dn) (Kd.R_base cd) hb); replace aa := zA (zMp aa.out hb); replace HB := zA (zG (zz0l HB ac) hb); (try clear hb); (try clear hb2); (try clear hk); (try clear hi); (try clear cd); obtain ⟨l5, kA, m8⟩ := Kd.R_slice ig.out; subst m8)); go_loopg [5, 14] k (fun kq v5 nY w' => ∃ (ao : List Int) (ct : Int), nY = .int .i64 ct ∧ Aside0 (spec_l6Row.l0 kq ao cp (cp.length : Int) ct = some r) ∧ Aside0 (kq ≤ k) ∧ Aside0 (Kd.R (Kd.int .i64) 3 w' w.heap.size (fun k_ => some k_ ≠ ((.slice l5 cp.length kA) : Value).ownBlock) v5 ao) ∧ Aside0 (Kd.R (Kd.int .i64) 3 w' w.heap.size (fun k_ => some k_ ≠ (v5 : Value).ownBlock) (.slice l5 cp.length kA) cp) ∧ Aside0 (w'.heap[ad]? = some (.cells #[.int .i64 af, .int .i64 aj, (.slice az ab.length aq), (.slice ay ae.length av), (.slice ar ai.length au), (.slice aw ag.length ax)] 32 (0, 0))) ∧ Aside0 (Below w.heap.size w w'))
 case atStart => exact ⟨(([] : List Int)), (0), zz12, H', ⟨Nat.le_refl _⟩, ⟨zz0f⟩, ⟨by (with_reducible repeat (first | apply zT | apply zU | apply zV)); exact Kd.R_mono ig.out (fun _ hk => (by simp [Value.ownBlock]))⟩, ⟨zz0w aa⟩, ⟨zz0l HB ac⟩⟩
 case round =>
  clear H'; (try clear p2); (try clear c4); (try clear f6); (try clear f7); (try clear gL); (try clear gM); (try clear gN); (try clear gO); obtain ⟨ao, ct, rfl, HA, bw, cS, ih, aa, HB⟩ := hrel; cases gk with
  | zero => exact absurd HA.out (by simp [spec_l6Row.l0])
  | succ k1 =>
   have H := HA.out; clear HA; simp only [spec_l6Row.l0] at H; by_cases jZ : ct < (cp.length : Int)
   · rw [if_pos jZ] at H; have jy := decide_eq_true jZ; clear jZ; replace H := zIn H; obtain ⟨hD, H⟩ := H; have gT : decide (0 ≤ ct) = true := decide_eq_true hD; clear hD; replace H := zIn H; obtain ⟨gF, H⟩ := H; have iC : decide (ct < (cp.length : Int)) = true := decide_eq_true gF; clear gF; by_cases gh : (rd cp ct) ≥ 0
     · rw [if_pos gh] at H; have h7 : decide (0 ≤ (rd cp ct)) = true := decide_eq_true gh; clear gh; replace H := zIn H; obtain ⟨gK, H⟩ := H; have mY := zA gK; clear gK; obtain ⟨hN, e_y⟩ : ∃ y_ : List Int, y_ = (ao ++ [rd cp ct]) := ⟨_, rfl⟩
       replace H : (spec_l6Row.l0 k1 hN cp (cp.length : Int) (wrap64 (ct + 1))) = some r := zz05
       have jN := zA e_y; clear e_y; have H' := zA H; clear H; have kH : 0 ≤ (ct : Int) := of_decide_eq_true zz1g; have kI : ct < (cp.length : Int) := of_decide_eq_true zz1g; obtain ⟨oX, qi, hx111_0⟩ := Kd.at_int (Kd.R_reads' ih.out).2.2 ct kH kI; cases qi; replace kH := eq_true kH; replace kI := eq_true kI; go_wp2_with (first | ((with_reducible refine gate_builtin (b := .append) (xs := #[.tmp 20, .tmp 22]) rfl ?_); at_builtin; refine Kd.R_append (Kd.int .i64) (w0 := w) w.heap.size rfl (.tmp 20) (.tmp 22) 23 3 (.int .i64 0) 8 rfl Tryz.underlying23 info3 rfl zz1k zz1l u5 ao (rd cp ct) [.int .i64 (rd cp ct)] (fun k_ => some k_ ≠ (.slice (some oX) cp.length kA : Value).ownBlock) (fun _ => False) rfl rfl ?aP (fun _ hk => hk.elim) ?aF ?aO ?aB ?aS ?aL ?_; (case aP => exact rfl); (case aB => exact (zz0l HB ac)); (case aF => exact (fun k_ hk => Kd.fresh' (Kd.R_lt (zz0y ih)) k_ hk)); (case aO => exact (zz0y cS)); (case aS => exact (zF (zz0l HB ac))); (case aL => have := mY.out; omega); intro v113 pR ho hb hg hat; rw [← jN.out] at ho; replace ih := zA (Kd.R_after (ok := (fun _ => True)) (by (with_reducible repeat (first | apply zT | apply zU | apply zV)); exact Kd.R_mono ih.out (fun _ hk => ⟨trivial, hk⟩)) hg hat); replace aa := zA (blk_grown (g := ad) (o := .cells #[.int .i64 af, .int .i64 aj, .slice az ab.length aq, .slice ay ae.length av, .slice ar ai.length au, .slice aw ag.length ax] 32 (0, 0)) (zz0w aa) hg (Kd.R_ne cS.out aa.out zz1k)); replace HB := zA (hb); have iB := zA (ho); clear cS; clear ho hb hg hat))
       go_roundg k1
       case measure => have := bw.out; omega
       case rel => exact ⟨(hN), (wrap64 (ct + 1)), zz12, H', ⟨zz1b bw⟩, ⟨zz0y iB⟩, ⟨by (with_reducible repeat (first | apply zT | apply zU | apply zV)); exact Kd.R_mono ih.out (fun _ hk => hk.2)⟩, ⟨zz0w aa⟩, ⟨zz0l HB ac⟩⟩
     · rw [if_neg gh] at H; have h7 : decide (0 ≤ (rd cp ct)) = false := decide_eq_false gh; clear gh; have H' := zA H; clear H; have kH : 0 ≤ (ct : Int) := of_decide_eq_true zz1g; have kI : ct < (cp.length : Int) := of_decide_eq_true zz1g; obtain ⟨oX, qi, hx111_0⟩ := Kd.at_int (Kd.R_reads' ih.out).2.2 ct kH kI; cases qi; replace kH := eq_true kH; replace kI := eq_true kI; go_wp2
       go_roundg k1
       case measure => have := bw.out; omega
       case rel => exact ⟨(ao), (wrap64 (ct + 1)), zz12, H', ⟨zz1b bw⟩, ⟨zz0y cS⟩, ⟨zz0y ih⟩, ⟨zz0w aa⟩, ⟨zz0l HB ac⟩⟩
   · rw [if_neg jZ] at H; have jy := decide_eq_false jZ; clear jZ; obtain rfl := Option.some.inj H; go_wp2; go_ret; exact ⟨_, zz0v, zz0m cS, zz0l HB ac⟩
end Go.Proofs.YtkocahlifffgjaaGreat.P
namespace Go.Proofs.YtkocahlifffgjaaGreat.P
open Go.RowKit Go.Proofs.YtkocahlifffgjaaGreatW.PrintWords
set_option linter.unusedVariables false
set_option linter.unusedSimpArgs false
structure UuI (m n : Nat) (ps : List (List Int)) (es : List Int) (out : List Int) : Prop where
 up : UpI out
 rg : ∀ x, x ∈ out → -(m : Int) ≤ x ∧ x < n
 lo : ∀ x, x ∈ es → x ∈ out
 hi : ∀ x, x ∈ out → UpR ps (· ∈ es) x
theorem UuI.len {m n : Nat} {ps : List (List Int)} {es out : List Int} (h : UuI m n ps es out) : out.length ≤ m + n := by
 have := upI_len out (-(m : Int)) n h.up h.rg zz1l; omega
theorem UuI.put {m n : Nat} {ps : List (List Int)} {es out : List Int} (h : UuI m n ps es out) {p : List Int} (hp : p ∈ ps) (h0 : 0 ≤ rd p 0 ∧ rd p 0 < n) (h1 : rd p 1 ∈ out) : UuI m n ps es (putI out (rd p 0)) :=
 ⟨upI_put _ _ h.up, fun x hx => by
  rcases (mem_putI _ _ _).1 hx with e | e
  · rw [e]; omega
  · exact h.rg x e, fun x hx => (mem_putI _ _ _).2 (.inr (h.lo x hx)), fun x hx => by
  rcases (mem_putI _ _ _).1 hx with e | e
  · rw [e]; exact .step hp (h.hi _ h1)
  · exact h.hi x e⟩
theorem UuI.fin {m n : Nat} {ps : List (List Int)} {es out : List Int} (h : UuI m n ps es out) (hc : ∀ p, p ∈ ps → rd p 1 ∈ out → rd p 0 ∈ out) (x : Int) : x ∈ out ↔ UpR ps (· ∈ es) x :=
 ⟨h.hi x, fun hx => hx.least (T := fun x => x ∈ out) h.lo hc⟩
structure UpP (m n : Nat) (ps : List (List Int)) (es : List Int) (m0 i : Nat) (out : List Int) (more : Bool) : Prop where
 ui : UuI m n ps es out
 le : m0 ≤ out.length
 lt : more = true → m0 < out.length
 cl : more = false → ∀ p, fstOf ps i p → rd p 1 ∈ out → rd p 0 ∈ out
section
variable {m n : Nat} (hn : n ≤ 40) (hm : m ≤ 40) {ps : List (List Int)} {es : List Int} (hps : PairsIn n ps) (hpl : ps.length ≤ 9223372036854775807)
include hn hm hps hpl
theorem sup_l1 (X : List Int) (m0 : Nat) (h0 : ∀ out more, UpP m n ps es m0 ps.length out more → Ev (fun k => spec_l6Up.l0 k ps out more) X) (d : Nat) : ∀ (i : Nat) (out : List Int) (more : Bool), i ≤ ps.length → ps.length - i = d → UpP m n ps es m0 i out more →
 Ev (fun k => spec_l6Up.l1 k ps out more ps ps.length i) X := by
 induction d with
 | zero =>
  intro i out more h1 hd hp; have ei : i = ps.length := by omega
  subst ei; obtain ⟨K, h⟩ := h0 out more hp; dsimp only at h; refine ⟨K + 1, fun k hk => ?_⟩; dsimp only; obtain ⟨k, rfl⟩ : ∃ m, k = m + 1 := ⟨k - 1, zz1l⟩
  simp only [spec_l6Up.l1]; rw [if_neg zz1l]; exact h k zz1l
 | succ d ih =>
  intro i out more h1 hd hp; have hil : i < ps.length := by omega
  have hlen := hp.ui.len; have hmem : rd_L1 ps i ∈ ps := by unfold rd_L1; rw [Int.toNat_natCast, List.getD_eq_getElem?_getD, List.getElem?_eq_getElem hil]; exact List.getElem_mem hil
  have ew : wrap64 ((i : Int) + 1) = ((i + 1 : Nat) : Int) := wsuccL hil hpl; have eg : ps.getD i [] = rd_L1 ps i := rfl; obtain ⟨y2, y0, y1⟩ := hps _ hmem; have skip : (rd (rd_L1 ps i) 1 ∈ out → rd (rd_L1 ps i) 0 ∈ out) → Ev (fun k => spec_l6Up.l1 k ps out more ps ps.length (wrap64 ((i : Int) + 1))) X := fun hc => by
   rw [ew]; exact ih (i + 1) out more zz1l zz1l ⟨hp.ui, hp.le, hp.lt, fun hm p hf => (fstOf_succ hf).elim (hp.cl hm p) (fun e => by rw [e, eg]; exact hc)⟩
  have put : rd (rd_L1 ps i) 0 ∉ out → rd (rd_L1 ps i) 1 ∈ out → Ev (fun k => spec_l6Up.l1 k ps (putI out (rd (rd_L1 ps i) 0)) true ps ps.length (wrap64 ((i : Int) + 1))) X := fun hn h1 => by
   rw [ew]; have hl := putI_len_new out _ hn; have := hp.le; exact ih (i + 1) _ true zz1l zz1l ⟨hp.ui.put hmem y0 h1, zz1l, fun _ => by omega, fun e => by cases e⟩
  obtain ⟨y, hy⟩ : ∃ y, y = rd_L1 ps i := ⟨_, rfl⟩
  rw [← hy] at y2 skip put; by_cases c1 : rd y 1 ∈ out
  · by_cases c0 : rd y 0 ∈ out
    · obtain ⟨K, h⟩ := skip (fun _ => c0); dsimp only at h; refine ⟨K + 100, fun k hk => ?_⟩; dsimp only; obtain ⟨k, rfl⟩ : ∃ m, k = m + 1 := ⟨k - 1, zz1l⟩
      simp only [spec_l6Up.l1]; rw [if_pos zz1l, if_pos zz1l, if_pos zz1l, ← hy, if_pos zz1l, has_eq out _ zz1l k zz1l, has_eq out _ zz1l k zz1l, decide_eq_true c1, decide_eq_true c0]; simp only [Option.bind_some]; rw [if_pos trivial, if_pos zz1l, if_pos trivial]; exact h k zz1l
    · obtain ⟨K, h⟩ := put c0 c1; dsimp only at h; refine ⟨K + 100, fun k hk => ?_⟩; dsimp only; obtain ⟨k, rfl⟩ : ∃ m, k = m + 1 := ⟨k - 1, zz1l⟩
      simp only [spec_l6Up.l1]; rw [if_pos zz1l, if_pos zz1l, if_pos zz1l, ← hy, if_pos zz1l, has_eq out _ zz1l k zz1l, has_eq out _ zz1l k zz1l, decide_eq_true c1, decide_eq_false c0, put_eq out _ zz1l k zz1l]; simp only [Option.bind_some]; rw [if_pos trivial, if_pos zz1l, if_neg zz1k]; exact h k zz1l
  · obtain ⟨K, h⟩ := skip (fun e => absurd e c1); dsimp only at h; refine ⟨K + 100, fun k hk => ?_⟩; dsimp only; obtain ⟨k, rfl⟩ : ∃ m, k = m + 1 := ⟨k - 1, zz1l⟩
    simp only [spec_l6Up.l1]; rw [if_pos zz1l, if_pos zz1l, if_pos zz1l, ← hy, if_pos zz1l, has_eq out _ zz1l k zz1l, decide_eq_false c1]; simp only [Option.bind_some]; rw [if_neg zz1k]; exact h k zz1l
theorem sup_l0 (X : List Int) (hX : UpI X) (hXm : ∀ x, x ∈ X ↔ UpR ps (· ∈ es) x) (d : Nat) : ∀ out : List Int, UuI m n ps es out → m + n - out.length ≤ d →
 Ev (fun k => spec_l6Up.l0 k ps out true) X := by
 induction d with
 | zero =>
  intro out h hd; refine (Ev.step (f := fun k => spec_l6Up.l1 k ps out false ps ps.length 0) (fun k => by simp only [spec_l6Up.l0]; rw [if_pos trivial]) ?_); refine sup_l1 hn hm hps hpl X out.length (fun out2 m2 h2 => ?_) ps.length 0 out false (Nat.zero_le _) rfl ⟨h, Nat.le_refl _, (fun e => by cases e), fun _ l ⟨j, hj, _⟩ => by omega⟩; cases m2 with
  | true => have a1 := h2.lt rfl; have a2 := h2.ui.len; omega
  | false =>
   refine ⟨1, fun k hk => ?_⟩; dsimp only; obtain ⟨k, rfl⟩ : ∃ m, k = m + 1 := ⟨k - 1, zz1l⟩
   simp only [spec_l6Up.l0]; rw [if_neg zz1k, upI_ext h2.ui.up hX fun x => (h2.ui.fin (fun p hp => h2.cl rfl p (fstOf_all hp (Nat.le_refl _))) x).trans (hXm x).symm]
 | succ d ih =>
  intro out h hd; refine (Ev.step (f := fun k => spec_l6Up.l1 k ps out false ps ps.length 0) (fun k => by simp only [spec_l6Up.l0]; rw [if_pos trivial]) ?_); refine sup_l1 hn hm hps hpl X out.length (fun out2 m2 h2 => ?_) ps.length 0 out false (Nat.zero_le _) rfl ⟨h, Nat.le_refl _, (fun e => by cases e), fun _ l ⟨j, hj, _⟩ => by omega⟩; cases m2 with
  | true => exact ih out2 h2.ui (by have a1 := h2.lt rfl; omega)
  | false =>
   refine ⟨1, fun k hk => ?_⟩; dsimp only; obtain ⟨k, rfl⟩ : ∃ m, k = m + 1 := ⟨k - 1, zz1l⟩
   simp only [spec_l6Up.l0]; rw [if_neg zz1k, upI_ext h2.ui.up hX fun x => (h2.ui.fin (fun p hp => h2.cl rfl p (fstOf_all hp (Nat.le_refl _))) x).trans (hXm x).symm]
theorem l6Up_ev (hup : UpI es) (hrg : ∀ x, x ∈ es → -(m : Int) ≤ x ∧ x < n) (X : List Int) (hX : UpI X) (hXm : ∀ x, x ∈ X ↔ UpR ps (· ∈ es) x) : Ev (fun k => spec_l6Up.f k ps es) X := by
 have hu : UuI m n ps es es := ⟨hup, hrg, fun x h => h, fun x h => .base h⟩
 have hl := hu.len; obtain ⟨K, h⟩ := sup_l0 hn hm hps hpl X hX hXm (m + n) es hu zz1l; dsimp only at h; refine ⟨K, fun k hk => ?_⟩; dsimp only; unfold spec_l6Up.f; rw [own_eq es zz1l]; exact h k hk
omit hn hm hps hpl in
theorem upI_cons_neg {x : Int} (hx : x < 0) {l : List Int} (h : UpI l) (h0 : ∀ z, z ∈ l → 0 ≤ z) : UpI (x :: l) := List.pairwise_cons.2 ⟨fun z hz => by have := h0 z hz; omega, h⟩
omit hn hm hps hpl in
def upU (n : Nat) (ps : List (List Int)) (x : Int) : List Int := (if x < 0 then [x] else []) ++ rowU n ps x
omit hn hm hpl in
theorem mem_upU {x : Int} (hx : x < n) (z : Int) : z ∈ upU n ps x ↔ UpR ps (· = x) z := by
 unfold upU; rw [List.mem_append, mem_rowU hps hx]; constructor
 · rintro (h | h)
   · by_cases c : x < 0
     · rw [if_pos c, List.mem_singleton] at h; exact .base h
     · rw [if_neg c] at h; cases h
   · exact h.2
 · intro h; rcases upR_lt hps h with e | e
   · subst e; by_cases c : z < 0
     · left; rw [if_pos c]; exact List.mem_singleton.2 rfl
     · exact .inr ⟨zz1l, h⟩
   · exact .inr ⟨e.1, h⟩
omit hn hm hpl in
theorem upU_up {x : Int} (hx : x < n) : UpI (upU n ps x) := by
 unfold upU; by_cases c : x < 0
 · rw [if_pos c]; exact upI_cons_neg c (rowU_up n ps x) fun z hz => ((mem_rowU hps hx z).1 hz).1
 · rw [if_neg c]; exact rowU_up n ps x
theorem l6Up_one {x : Int} (hx : -(m : Int) ≤ x ∧ x < n) : Ev (fun k => spec_l6Up.f k ps [x]) (upU n ps x) :=
 l6Up_ev hn hm hps hpl (List.pairwise_singleton _ _) (fun z hz => by rw [List.mem_singleton.1 hz]; exact hx) _ (upU_up hps hx.2) (fun z => (mem_upU hps hx.2 z).trans ⟨fun h => h.mono fun z e => List.mem_singleton.2 e, fun h => h.mono fun z e => List.mem_singleton.1 e⟩)
end
theorem l6Row_loop (l : List Int) (hl : l.length < 17592186044416) (d : Nat) : ∀ (k i : Nat) (out : List Int), i ≤ l.length → l.length - i = d → d < k → out.length + d < 17592186044416 →
 spec_l6Row.l0 k out l l.length i = some (out ++ (l.drop i).filter fun z => decide (0 ≤ z)) := by
 induction d with
 | zero =>
  intro k i out h1 hd hk ho; obtain ⟨k, rfl⟩ : ∃ m, k = m + 1 := ⟨k - 1, zz1l⟩
  simp only [spec_l6Row.l0]; rw [if_neg zz1l, List.drop_of_length_le zz1l]; simp
 | succ d ih =>
  intro k i out h1 hd hk ho; obtain ⟨k, rfl⟩ : ∃ m, k = m + 1 := ⟨k - 1, zz1l⟩
  have ed : l.drop i = rd l i :: l.drop (i + 1) := getD_drop l i 0 zz1l; simp only [spec_l6Row.l0]; rw [if_pos zz1l, if_pos zz1l, if_pos zz1l, wsuccL (show i < l.length by omega) zz1l]; by_cases c : 0 ≤ rd l i
  · rw [if_pos c, if_pos zz1l, ih k (i + 1) _ zz1l zz1l zz1l (by rw [List.length_append]; simp; omega), ed, List.filter_cons_of_pos (by simpa using c)]; simp
  · rw [if_neg c, ih k (i + 1) _ zz1l zz1l zz1l zz1l, ed, List.filter_cons_of_neg (by simpa using c)]
theorem pairsU_in {n : Nat} {toks : Int} {ps os : List (List Int)} {es : List Int} (ok : OkB (n : Int) toks ps os es) : PairsIn n (pairsU n es os ps) := fun p hp => by
 obtain ⟨e1, e2, e3⟩ := pairsU_ok ok hp; exact ⟨e1, e2, e3.2⟩
theorem l6Row_ev {n : Nat} {toks : Int} {ps os : List (List Int)} {es : List Int} {fs : List (List Int)} (ok : OkB (n : Int) toks ps os es) (hp : ps.length ≤ 1048576) (ho : os.length ≤ 1048576) {x : Int} (hx : -toks ≤ x ∧ x < n) : Ev (fun k => spec_l6Row.f k (n : Int) toks ps os es fs x) (rowU n (pairsU n es os ps) x) := by
 have h40 := ok.n; have h4 := ok.t; have hP := pairsU_in ok; have hPl := pairsU_len n es os ps; obtain ⟨K, h⟩ := l6Pairs_ev (fs := fs) ok hp ho; obtain ⟨K2, h2⟩ := l6Up_one (m := toks.toNat) zz1l zz1l hP zz1l (x := x) zz1l; dsimp only at h h2; have hlen : (upU n (pairsU n es os ps) x).length ≤ n + 1 := by
  have := rowU_len hP hx.2; unfold upU; rw [List.length_append]; by_cases c : x < 0
  · rw [if_pos c]; simp; omega
  · rw [if_neg c]; simp; omega
 have ef : ((upU n (pairsU n es os ps) x).filter fun z => decide (0 ≤ z)) = rowU n (pairsU n es os ps) x := by
  unfold upU; rw [List.filter_append, List.filter_eq_self.2 fun z hz => decide_eq_true ((mem_rowU hP hx.2 z).1 hz).1]; by_cases c : x < 0
  · rw [if_pos c, List.filter_cons_of_neg (by simpa using c)]; simp
  · rw [if_neg c]; simp
 refine ⟨K + K2 + (n + 10), fun k hk => ?_⟩; dsimp only; unfold spec_l6Row.f; rw [h k zz1l]; simp only [Option.bind_some]; rw [h2 k zz1l]; simp only [Option.bind_some]; have := l6Row_loop (upU n (pairsU n es os ps) x) zz1l _ k 0 [] (Nat.zero_le _) rfl zz1l (by simp; omega); rw [List.drop_zero, List.nil_append, ef] at this; exact this
end Go.Proofs.YtkocahlifffgjaaGreat.P
namespace Go.Proofs.YtkocahlifffgjaaGreat.P
open Go.RowKit Go.Proofs.YtkocahlifffgjaaGreatW.PrintWords Go.Proofs.YtkocahlifffgjaaGreatW.PrintLast Go.Proofs.YtkocahlifffgjaaGreatW.PrintMore
attribute [local go_sem] max2_int min2_int max_two min_two max_three min_three max_four min_four
set_option linter.unusedVariables false
set_option linter.unusedSimpArgs false
def spec_l5Symbol.f (af : Int) (aj : Int) (ab : List (List Int)) (ae : List (List Int)) (ai : List Int) (ag : List (List Int)) (a1 : Int) : Option (Bool) := (spec_l1In.f a1 (wrap64 (-aj)) (wrap64 (af - 1))).bind fun aE => (some aE)
set_option maxHeartbeats 8000000 in
set_option maxRecDepth 100000 in
theorem spec_l5Symbol.calls (af : Int) (aj : Int) (az : Option Addr) (aq : Nat) (ab : List (List Int)) (ay : Option Addr) (av : Nat) (ae : List (List Int)) (ar : Option Addr) (au : Nat) (ai : List Int) (aw : Option Addr) (ax : Nat) (ag : List (List Int)) (a1 : Int) (r : Bool) (w : World) (bD : Kd.C (Kd.slice 3 (Kd.int .i64)) w az ab.length ab) (bE : ab.length ≤ aq) (bF : Kd.C (Kd.slice 3 (Kd.int .i64)) w ay ae.length ae) (bG : ae.length ≤ av) (bH : Kd.C (Kd.int .i64) w ar ai.length ai) (bI : ai.length ≤ au) (bJ : Kd.C (Kd.slice 3 (Kd.int .i64)) w aw ag.length ag) (bK : ag.length ≤ ax) (h : spec_l5Symbol.f af aj ab ae ai ag a1 = some r) :
 Calls Tryz.prog 79 #[.agg #[.int .i64 af, .int .i64 aj, .slice az ab.length aq, .slice ay ae.length av, .slice ar ai.length au, .slice aw ag.length ax], .int .i64 a1] w fun e w' => e = .returned (.bool r) ∧ Below w.heap.size w w' := by
 have hu32 := Tryz.underlying32; have bq := zA bD; have bL := zA bE; clear bD bE; have bu := zA bF; have bO := zA bG; clear bF bG; have bP := zA bH; have bQ := zA bI; clear bH bI; have bR := zA bJ; have bV := zA bK; clear bJ bK; have HB := zA (Below.refl w.heap.size w); have H : ((spec_l1In.f a1 (wrap64 (-aj)) (wrap64 (af - 1))).bind fun aE => (some aE)) = some r := h; clear h; replace H := Option.bind_eq_some_iff.mp H; obtain ⟨aE, f4, H⟩ := H; have A3 := zA f4; clear f4; obtain rfl := Option.some.inj H; go_enter Tryz.func79, Tryz.ntmps79; go_wp2_with (first | ((with_reducible refine gate_dst (N := 2) rfl ?_); refine box_event ?hg (N := 2) ?hd (cs := #[.int .i64 af, .int .i64 aj, .slice az ab.length aq, .slice ay ae.length av, .slice ar ai.length au, .slice aw ag.length ax]) (t := 32) ?hr ?_; (case hd => rfl); (case hg => rfl); (case hr => first | (go_simp; done) | (go_simp; rfl)); intro ad hg w4 hbox hb; have aa := zA (hbox); have b0 := zA ((by rw [hg]; exact (zF (zz0u HB)) : w.heap.size ≤ ad)); have ac := zA ((by rw [hg]; exact (zF (zz0u HB)) : w.heap.size ≤ ad)); replace HB := zA (zG (zz0u HB) hb); clear hb hbox hg; obtain ⟨hcz5_0, hcz5_1, hcz5_2, hcz5_3, hcz5_4, hcz5_5⟩ := zk6 aa.out; have hfz5_5 := zL aa.out 5) | ((with_reducible refine gate_callee (f := 41) rfl ?_); refine goesL_ (some 12) rfl rfl Tryz.func41 zz1h rfl #[.int .i64 a1, .int .i64 (wrap64 (-aj)), .int .i64 (wrap64 (af - 1))] rfl zz0h ?_; (with_reducible refine (spec_l1In.calls a1 (wrap64 (-aj)) (wrap64 (af - 1)) aE _ A3.out).mono ?_); rintro e w' ⟨rfl, ⟨nd, rfl⟩⟩; refine ⟨_, rfl, ?_⟩)); go_ret; exact ⟨zz0v, zz0l HB ac⟩
end Go.Proofs.YtkocahlifffgjaaGreat.P
namespace Go.Proofs.YtkocahlifffgjaaGreat.P
open Go.RowKit Go.Proofs.YtkocahlifffgjaaGreatW.PrintWords Go.Proofs.YtkocahlifffgjaaGreatW.PrintLast Go.Proofs.YtkocahlifffgjaaGreatW.PrintMore
set_option linter.unusedVariables false
set_option linter.unusedSimpArgs false
theorem l1In_eq (a b c : Int) : spec_l1In.f a b c = some (decide (b ≤ a ∧ a ≤ c)) := by
 unfold spec_l1In.f; by_cases h : a ≥ b
 · rw [if_pos h]; congr 2; simp; omega
 · rw [if_neg h]; simp; omega
theorem l5Symbol_eq (a0 a1 : Int) (l2 l3 : List (List Int)) (l4 : List Int) (l5 : List (List Int)) (x : Int) : spec_l5Symbol.f a0 a1 l2 l3 l4 l5 x = some (symB a0 a1 x) := by
 unfold spec_l5Symbol.f symB; rw [l1In_eq]; rfl
theorem l5Less_loop (a b : List Int) (hl : a.length = b.length) (hb : a.length ≤ 9223372036854775807) (d : Nat) : ∀ (k i : Nat), i ≤ a.length → a.length - i = d → d < k →
 spec_l5Less.l0 k a b a.length i = some (decide (cmpL (a.drop i) (b.drop i) < 0)) := by
 induction d with
 | zero =>
  intro k i h1 hd hk; obtain ⟨k, rfl⟩ : ∃ m, k = m + 1 := ⟨k - 1, zz1l⟩
  simp only [spec_l5Less.l0]; rw [if_neg zz1l, List.drop_of_length_le (show a.length ≤ i by omega), List.drop_of_length_le (show b.length ≤ i by omega)]; rfl
 | succ d ih =>
  intro k i h1 hd hk; obtain ⟨k, rfl⟩ : ∃ m, k = m + 1 := ⟨k - 1, zz1l⟩
  simp only [spec_l5Less.l0]; have ea : a.drop i = rd a i :: a.drop (i + 1) := getD_drop a i 0 zz1l; have eb : b.drop i = rd b i :: b.drop (i + 1) := getD_drop b i 0 zz1l; rw [if_pos zz1l, if_pos zz1l, if_pos zz1l, if_pos zz1l, ea, eb]; by_cases h3 : rd a i = rd b i
  · rw [if_pos h3, show wrap64 ((i : Int) + 1) = ((i + 1 : Nat) : Int) by unfold wrap64; omega, ih k (i + 1) zz1l zz1l zz1l]; simp [cmpL, h3]
  · rw [if_neg h3]; by_cases h4 : rd a i < rd b i
    · simp [cmpL, h4]
    · simp [cmpL, h4, show rd b i < rd a i by omega]
theorem l5Less_eq (a b : List Int) (hl : a.length = b.length) (hb : a.length ≤ 9223372036854775807) (k : Nat) (hk : a.length < k) : spec_l5Less.f k a b = some (decide (cmpL a b < 0)) := by
 unfold spec_l5Less.f; have := l5Less_loop a b hl hb a.length k 0 zz1l zz1l hk; simpa using this
def spec_l5Rising.f (a0_0 a0_1 : Int) (l0_2 l0_3 : List (List Int)) (l0_4 : List Int) (l0_5 l1 : List (List Int)) (a2 : Int) : Option Bool := if 1 ≤ a2 then some (listsF a0_0 a0_1 a2 none l1) else none
set_option maxHeartbeats 4000000 in
set_option maxRecDepth 100000 in
theorem spec_l5Rising.calls (a0_0 a0_1 : Int) (A0_2 : Option Addr) (c0_2 : Nat) (l0_2 : List (List Int)) (A0_3 : Option Addr) (c0_3 : Nat) (l0_3 : List (List Int)) (A0_4 : Option Addr) (c0_4 : Nat) (l0_4 : List Int) (A0_5 : Option Addr) (c0_5 : Nat) (l0_5 : List (List Int)) (A1 : Option Addr) (c1 : Nat) (l1 : List (List Int)) (a2 : Int) (r : Bool) (w : World)
 (hr0_2 : Kd.C (Kd.slice 3 (Kd.int .i64)) w A0_2 l0_2.length l0_2) (hc0_2 : l0_2.length ≤ c0_2) (hr0_3 : Kd.C (Kd.slice 3 (Kd.int .i64)) w A0_3 l0_3.length l0_3) (hc0_3 : l0_3.length ≤ c0_3) (hr0_4 : Kd.C (Kd.int .i64) w A0_4 l0_4.length l0_4) (hc0_4 : l0_4.length ≤ c0_4) (hr0_5 : Kd.C (Kd.slice 3 (Kd.int .i64)) w A0_5 l0_5.length l0_5) (hc0_5 : l0_5.length ≤ c0_5) (hr1 : Kd.C (Kd.slice 3 (Kd.int .i64)) w A1 l1.length l1) (hc1 : l1.length ≤ c1)
 (h : spec_l5Rising.f a0_0 a0_1 l0_2 l0_3 l0_4 l0_5 l1 a2 = some r) :
 Calls Tryz.prog 64 #[.agg #[.int .i64 a0_0, .int .i64 a0_1, .slice A0_2 l0_2.length c0_2, .slice A0_3 l0_3.length c0_3, .slice A0_4 l0_4.length c0_4, .slice A0_5 l0_5.length c0_5], .slice A1 l1.length c1, .int .i64 a2] w fun e w' => e = .returned (.bool r) ∧ Below w.heap.size w w' := by
 have hu := Tryz.underlying32; have ha2 : 1 ≤ a2 := by
  by_cases h2 : 1 ≤ a2
  · exact h2
  · unfold spec_l5Rising.f at h; rw [if_neg h2] at h; cases h
 unfold spec_l5Rising.f at h; rw [if_pos ha2] at h; obtain rfl := Option.some.inj h; clear h; have SY := zA fun (x : Int) (W : World) (hW : Below w.heap.size w W) => spec_l5Symbol.calls a0_0 a0_1 A0_2 c0_2 l0_2 A0_3 c0_3 l0_3 A0_4 c0_4 l0_4 A0_5 c0_5 l0_5 x (symB a0_0 a0_1 x) W (zS hr0_2 hW) hc0_2 (zS hr0_3 hW) hc0_3 (zS hr0_4 hW) hc0_4 (zS hr0_5 hW) hc0_5 (l5Symbol_eq a0_0 a0_1 l0_2 l0_3 l0_4 l0_5 x)
 clear hr0_2 hr0_3 hr0_4 hr0_5; have hml : l1.length ≤ 9223372036854775807 := hr1.2.1; have HRL := zA hr1; clear hr1; have HB := zA (Below.refl w.heap.size w); have HA2 := zA ha2; go_enter Tryz.func64, Tryz.ntmps64; go_wp2_with (first | ((with_reducible refine gate_dst (N := 3) rfl ?_); refine box_event ?hg (N := 3) ?hd (cs := #[.int .i64 a0_0, .int .i64 a0_1, .slice A0_2 l0_2.length c0_2, .slice A0_3 l0_3.length c0_3, .slice A0_4 l0_4.length c0_4, .slice A0_5 l0_5.length c0_5]) (t := 32) ?hr ?_; (case hd => rfl); (case hg => rfl); (case hr => first | (go_simp; done) | (go_simp; rfl)); intro gb hg w1 hbox hb; have n0_ := zA (zG HB.out hb); have n1_ := zA hbox; clear HB; have HB := n0_; have BK := n1_; clear n0_ n1_ hb hbox hg) | go_in); go_loopg [13] l1.length (fun gg s13 wr => ∃ kk : Nat, kk ≤ l1.length ∧ l1.length - kk ≤ gg ∧ s13 = .int .i64 kk ∧ Aside0 (listsF a0_0 a0_1 a2 none l1 = listsF a0_0 a0_1 a2 (prevL l1 kk) (l1.drop kk)) ∧ Aside0 (∀ z, prevL l1 kk = some z → (z.length : Int) = a2) ∧ Aside0 (wr.heap[gb]? = some (.cells #[.int .i64 a0_0, .int .i64 a0_1, .slice A0_2 l0_2.length c0_2, .slice A0_3 l0_3.length c0_3, .slice A0_4 l0_4.length c0_4, .slice A0_5 l0_5.length c0_5] 32 (0, 0))) ∧ Aside0 (Below w.heap.size w wr))
 case atStart => exact ⟨0, Nat.zero_le _, zz1l, rfl, ⟨rfl⟩, ⟨fun z h => by cases h⟩, BK, HB⟩
 case round =>
  clear BK HB; obtain ⟨kk, hkk, hg, rfl, R, LN, BK, HB⟩ := hrel; by_cases hlt : kk < l1.length
  · have hd : decide (kk < l1.length) = true := decide_eq_true hlt; obtain ⟨ad, A3, c3, e, hx0, hl3, hi3⟩ := at_L1 HRL.out (kk : Int) zz1l zz1l; subst e; have hx1 : wr.cell? (ad.add kk) = some (.slice A3 (rd_L1 l1 kk).length c3) := (HB.out.cell (World.block_lt_of_cell? w _ zz1d)).trans zz1d; have OKD := zA (show listsF a0_0 a0_1 a2 (prevL l1 kk) (l1.drop kk) = (rowOk a0_0 a0_1 a2 (rd_L1 l1 kk) && ((match prevL l1 kk with | none => true | some z => decide (cmpL z (rd_L1 l1 kk) < 0)) && listsF a0_0 a0_1 a2 (prevL l1 (kk + 1)) (l1.drop (kk + 1)))) by rw [getD_drop l1 kk [] hlt]; cases kk <;> rfl); have HI := zA (zS hi3 HB.out); have HL := zA hl3; have hmy : (rd_L1 l1 kk).length ≤ 9223372036854775807 := hi3.2.1; have L := zA hlt; have PRV := zA (show ∀ m, kk = m + 1 → prevL l1 kk = some (rd_L1 l1 m) from fun m hm => by rw [hm]; rfl); have PRN := zA (show prevL l1 (kk + 1) = some (rd_L1 l1 kk) from rfl); clear hx0 hi3 hl3; generalize rd_L1 l1 kk = y at hx1 OKD HI HL hmy PRN
    go_upto_region 4 with fail
    have q0 := Later.cell (w := wr) (a := ⟨gb, 0, none⟩) (v := .int .i64 a0_0) ((zK BK.out 0).trans rfl); have q1 := Later.cell (w := wr) (a := ⟨gb, 1, none⟩) (v := .int .i64 a0_1) ((zK BK.out 1).trans rfl); clear hx1; by_cases h1 : (y.length : Int) = a2
    · have e1 : ((y.length : Int) != a2) = false := by rw [h1]; simp
      have hpos : 0 < y.length := by have := HA2.out; omega
      obtain ⟨ay, e, hy0⟩ := Kd.at_int HI.out 0 zz1l zz1l; subst e; rw [show ((0 : Int)).toNat = 0 from rfl, Addr.add_zero'] at hy0; have q2 := Later.cell hy0; have hlp : (0 < y.length) = True := eq_true hpos; clear hy0; have H1x := zA h1; clear h1; by_cases h2 : 0 ≤ rd y 0 ∧ rd y 0 ≤ wrap64 (a0_0 - 1)
      · have J1 := zA (show spec_l1In.f (rd y 0) 0 (wrap64 (a0_0 - 1)) = some true by rw [l1In_eq, decide_eq_true h2]); have H2x := zA h2; clear h2; obtain ⟨i0, hi0, _, hsz0, _⟩ := info_parts info3; have hcut0 := cut_from (P := Tryz.prog) 23 3 .i64 Tryz.underlying23 hi0 1 hsz0 (some ay) y.length c3 1 zz1l zz1l; have HI90 := Kd.C_drop (m := 1) HI.out zz1l HL.out; obtain ⟨A9, hA9⟩ : ∃ A9 : Option Addr, A9 = (if c3 = 1 then some ay else (some ay).map (·.add (1 * 1))) := ⟨_, rfl⟩
        obtain ⟨t, ht⟩ : ∃ t, t = y.drop 1 := ⟨_, rfl⟩
        have htl : t.length = y.length - 1 := by rw [ht, List.length_drop]
        have hcut : ∀ W : World, (Instr.slice 23 (.slice (some ay) y.length c3) (some (.int .i64 1)) none none).run Tryz.prog W = .ok (.slice A9 t.length (c3 - 1)) W := fun W => by rw [hcut0 W, hA9, htl]; rfl
        have HI9w := zA (show Kd.C (Kd.int .i64) wr A9 t.length t by rw [hA9, ht]; exact HI90); have hmt : t.length ≤ 9223372036854775807 := by omega
        have NOS := zA (show ∀ i : Nat, i < t.length → symB a0_0 a0_1 (t.getD i 0) = false → rowOk a0_0 a0_1 a2 y = false from fun i hi hs => by
         unfold rowOk; rw [← ht]; have : (t.any fun z => !symB a0_0 a0_1 z) = true := List.any_eq_true.2 ⟨t.getD i 0, by rw [List.getD_eq_getElem?_getD, List.getElem?_eq_getElem hi]; exact List.getElem_mem hi, by rw [hs]; rfl⟩; rw [this]; simp)
        have YESS := zA (show (∀ i : Nat, i < t.length → symB a0_0 a0_1 (t.getD i 0) = true) → rowOk a0_0 a0_1 a2 y = true from fun hs => by
         unfold rowOk; rw [← ht, decide_eq_true H1x.out, decide_eq_true H2x.out]; have : (t.any fun z => !symB a0_0 a0_1 z) = false := by
          rw [List.any_eq_false]; intro z hz; obtain ⟨i, hi, rfl⟩ := List.getElem_of_mem hz; have := hs i hi; rw [List.getD_eq_getElem?_getD, List.getElem?_eq_getElem hi] at this; simpa using this
         rw [this]; rfl)
        clear hcut0 HI90 hA9 hi0 hsz0 ht htl; cases kk with
        | zero =>
         refine wp_region_later zz1h zz1h ?_; (repeat (go_big_quiet_step (first | (go_at_call 41; with_reducible exact Later.callD (spec_l1In.calls (rd y 0) 0 (wrap64 (a0_0 - 1)) true _ J1.out))))); refine wpQuiet_nil ?_; intro w4_ hw4; obtain ⟨⟨w4, hb4⟩, hw4⟩ := hw4; subst hw4; (try dsimp only); have B4 := zA hb4; clear hb4; have n0_ := zA (zM BK.out B4.out); have n1_ := zA (zG HB.out B4.out); have HI9 := zA (zS HI9w.out B4.out); clear BK HB B4 q0 q1 q2 HI9w; have BK := n0_; have HB := n1_; clear n0_ n1_ hd; go_wp2; go_loopg [49] t.length (fun gg s49 wr => ∃ jj : Nat, jj ≤ t.length ∧ t.length - jj ≤ gg ∧ s49 = .int .i64 jj ∧ Aside0 (∀ i, i < jj → symB a0_0 a0_1 (t.getD i 0) = true) ∧ Aside0 (wr.heap[gb]? = some (.cells #[.int .i64 a0_0, .int .i64 a0_1, .slice A0_2 l0_2.length c0_2, .slice A0_3 l0_3.length c0_3, .slice A0_4 l0_4.length c0_4, .slice A0_5 l0_5.length c0_5] 32 (0, 0))) ∧ Aside0 (Kd.C (Kd.int .i64) wr A9 t.length t) ∧ Aside0 (Below w.heap.size w wr))
         case atStart => exact ⟨0, Nat.zero_le _, zz1l, rfl, ⟨fun i hi => absurd hi (Nat.not_lt_zero _)⟩, BK, HI9, HB⟩
         case round =>
          clear BK HB HI9; obtain ⟨jj, hjj, hg2, rfl, S, BK, HI9, HB⟩ := hrel; by_cases hlt2 : jj < t.length
          · have hd2 : decide (jj < t.length) = true := decide_eq_true hlt2; obtain ⟨ay9, e, hy9⟩ := Kd.at_int HI9.out (jj : Int) zz1l zz1l; subst e; have hy8 : wr.cell? (ay9.add jj) = some (.int .i64 (rd t jj)) := by simpa using hy9
            have hx0 : wr.cell? ⟨gb, 0, none⟩ = some (.int .i64 a0_0) := (zK BK.out 0).trans rfl; have hx1 : wr.cell? ⟨gb, 1, none⟩ = some (.int .i64 a0_1) := (zK BK.out 1).trans rfl; have hx2 : wr.cell? ⟨gb, 2, none⟩ = some (.slice A0_2 l0_2.length c0_2) := (zK BK.out 2).trans rfl; have hx3 : wr.cell? ⟨gb, 3, none⟩ = some (.slice A0_3 l0_3.length c0_3) := (zK BK.out 3).trans rfl; have hx4 : wr.cell? ⟨gb, 4, none⟩ = some (.slice A0_4 l0_4.length c0_4) := (zK BK.out 4).trans rfl; have hx5 : wr.cell? ⟨gb, 5, none⟩ = some (.slice A0_5 l0_5.length c0_5) := (zK BK.out 5).trans rfl; have L2 := zA hlt2; clear hy9; have CS := SY.out (rd t jj) wr HB.out; have SE := zA (show t.getD jj 0 = rd t jj from rfl); generalize rd t jj = x at hy8 CS SE; cases hs : symB a0_0 a0_1 x with
            | true =>
             rw [hs] at CS; have SX := zA hs; clear hs; go_wp2_with fail; refine CS.mono ?_; rintro e w' ⟨rfl, hb'⟩; clear CS hd2; go_wp2
             go_roundg (t.length - (jj + 1))
             case measure => have := L2.out; omega
             case rel => exact ⟨jj + 1, zz1b L2, zz1l, zz1j, ⟨fun (i : Nat) (hi : i < jj + 1) => if ej : i = jj then (by subst ej; rw [SE.out]; exact SX.out) else S.out i (by have := hi; have := ej; omega)⟩, ⟨zM BK.out hb'⟩, ⟨zS HI9.out hb'⟩, ⟨zG HB.out hb'⟩⟩
            | false =>
             rw [hs] at CS; have J4 := zA (show listsF a0_0 a0_1 a2 none l1 = false by rw [R.out, OKD.out, NOS.out jj L2.out (by rw [SE.out]; exact hs), Bool.false_and]); clear hs; go_wp2_with fail; refine CS.mono ?_; rintro e w' ⟨rfl, hb'⟩; clear CS hd2 hlt2; go_wp2; go_ret; exact ⟨zz1e J4, zG HB.out hb'⟩
          · have hd2 : decide (jj < t.length) = false := decide_eq_false hlt2; have RW := zA (YESS.out (fun i hi => S.out i zz1l)); have J5 := zA (show listsF a0_0 a0_1 a2 none l1 = listsF a0_0 a0_1 a2 (prevL l1 (0 + 1)) (l1.drop (0 + 1)) by rw [R.out, OKD.out, RW.out]; rfl); clear hlt2; go_wp2
            go_roundg (l1.length - (0 + 1))
            case measure => have := L.out; omega
            case rel => exact ⟨0 + 1, zz1b L, zz1l, zz1j, J5, ⟨fun z_ hz_ => by rw [PRN.out] at hz_; cases hz_; exact H1x.out⟩, BK, HB⟩
        | succ m =>
         obtain ⟨ad2, A8, c8, e, hz0, hl8, hi8⟩ := at_L1 HRL.out (m : Int) zz1l zz1l; cases e; have q3 := Later.cell (w := wr) (a := ad.add m) (v := .slice A8 (rd_L1 l1 m).length c8) ((HB.out.cell (World.block_lt_of_cell? w _ (by simpa using hz0))).trans (by simpa using hz0)); have HZ := zA (zS hi8 HB.out); have HZL := zA hl8; have hmz := zA hi8.2.1; have PV2 := zA (PRV.out m rfl); have LZ := zA (LN.out _ PV2.out); rw [PV2.out] at OKD; clear hz0 hl8 hi8 PRV LN; generalize rd_L1 l1 m = z at q3 HZ HZL hmz OKD PV2 LZ; have OK2 := zA (show listsF a0_0 a0_1 a2 (some z) (l1.drop (m + 1)) = (rowOk a0_0 a0_1 a2 y && (decide (cmpL z y < 0) && listsF a0_0 a0_1 a2 (prevL l1 (m + 1 + 1)) (l1.drop (m + 1 + 1)))) from OKD.out); clear OKD; have OKD := OK2; clear OK2; have J6 := zA (l5Less_eq z y (zz18 LZ H1x) hmz.out (z.length + 1) zz1l); generalize decide (cmpL z y < 0) = cz at J6 OKD; have CM := fun (W : World) (hW : Below wr.heap.size wr W) => spec_l5Less.calls (z.length + 1) A8 c8 z (some ay) c3 y cz W (zS HZ.out hW) HZL.out (zS HI.out hW) HL.out J6.out
         cases cz with
         | true =>
          refine wp_region_later zz1h zz1h ?_; (repeat (go_big_quiet_step (first | (go_at_call 41; with_reducible exact Later.callD (spec_l1In.calls (rd y 0) 0 (wrap64 (a0_0 - 1)) true _ J1.out)) | (go_at_call 78; with_reducible exact Later.callD (CM _ (Later.below _)))))); refine wpQuiet_nil ?_; intro w4_ hw4; obtain ⟨⟨w4, hb4⟩, hw4⟩ := hw4; subst hw4; (try dsimp only); have B4 := zA hb4; clear hb4; clear CM q3; have n0_ := zA (zM BK.out B4.out); have n1_ := zA (zG HB.out B4.out); have HI9 := zA (zS HI9w.out B4.out); clear BK HB B4 q0 q1 q2 HI9w; have BK := n0_; have HB := n1_; clear n0_ n1_ hd; go_wp2; go_loopg [49] t.length (fun gg s49 wr => ∃ jj : Nat, jj ≤ t.length ∧ t.length - jj ≤ gg ∧ s49 = .int .i64 jj ∧ Aside0 (∀ i, i < jj → symB a0_0 a0_1 (t.getD i 0) = true) ∧ Aside0 (wr.heap[gb]? = some (.cells #[.int .i64 a0_0, .int .i64 a0_1, .slice A0_2 l0_2.length c0_2, .slice A0_3 l0_3.length c0_3, .slice A0_4 l0_4.length c0_4, .slice A0_5 l0_5.length c0_5] 32 (0, 0))) ∧ Aside0 (Kd.C (Kd.int .i64) wr A9 t.length t) ∧ Aside0 (Below w.heap.size w wr))
          case atStart => exact ⟨0, Nat.zero_le _, zz1l, rfl, ⟨fun i hi => absurd hi (Nat.not_lt_zero _)⟩, BK, HI9, HB⟩
          case round =>
           clear BK HB HI9; obtain ⟨jj, hjj, hg2, rfl, S, BK, HI9, HB⟩ := hrel; by_cases hlt2 : jj < t.length
           · have hd2 : decide (jj < t.length) = true := decide_eq_true hlt2; obtain ⟨ay9, e, hy9⟩ := Kd.at_int HI9.out (jj : Int) zz1l zz1l; subst e; have hy8 : wr.cell? (ay9.add jj) = some (.int .i64 (rd t jj)) := by simpa using hy9
             have hx0 : wr.cell? ⟨gb, 0, none⟩ = some (.int .i64 a0_0) := (zK BK.out 0).trans rfl; have hx1 : wr.cell? ⟨gb, 1, none⟩ = some (.int .i64 a0_1) := (zK BK.out 1).trans rfl; have hx2 : wr.cell? ⟨gb, 2, none⟩ = some (.slice A0_2 l0_2.length c0_2) := (zK BK.out 2).trans rfl; have hx3 : wr.cell? ⟨gb, 3, none⟩ = some (.slice A0_3 l0_3.length c0_3) := (zK BK.out 3).trans rfl; have hx4 : wr.cell? ⟨gb, 4, none⟩ = some (.slice A0_4 l0_4.length c0_4) := (zK BK.out 4).trans rfl; have hx5 : wr.cell? ⟨gb, 5, none⟩ = some (.slice A0_5 l0_5.length c0_5) := (zK BK.out 5).trans rfl; have L2 := zA hlt2; clear hy9; have CS := SY.out (rd t jj) wr HB.out; have SE := zA (show t.getD jj 0 = rd t jj from rfl); generalize rd t jj = x at hy8 CS SE; cases hs : symB a0_0 a0_1 x with
             | true =>
              rw [hs] at CS; have SX := zA hs; clear hs; go_wp2_with fail; refine CS.mono ?_; rintro e w' ⟨rfl, hb'⟩; clear CS hd2; go_wp2
              go_roundg (t.length - (jj + 1))
              case measure => have := L2.out; omega
              case rel => exact ⟨jj + 1, zz1b L2, zz1l, zz1j, ⟨fun (i : Nat) (hi : i < jj + 1) => if ej : i = jj then (by subst ej; rw [SE.out]; exact SX.out) else S.out i (by have := hi; have := ej; omega)⟩, ⟨zM BK.out hb'⟩, ⟨zS HI9.out hb'⟩, ⟨zG HB.out hb'⟩⟩
             | false =>
              rw [hs] at CS; have J4 := zA (show listsF a0_0 a0_1 a2 none l1 = false by rw [R.out, PV2.out, OKD.out, NOS.out jj L2.out (by rw [SE.out]; exact hs), Bool.false_and]); clear hs; go_wp2_with fail; refine CS.mono ?_; rintro e w' ⟨rfl, hb'⟩; clear CS hd2 hlt2; go_wp2; go_ret; exact ⟨zz1e J4, zG HB.out hb'⟩
           · have hd2 : decide (jj < t.length) = false := decide_eq_false hlt2; have RW := zA (YESS.out (fun i hi => S.out i zz1l)); have J5 := zA (show listsF a0_0 a0_1 a2 none l1 = listsF a0_0 a0_1 a2 (prevL l1 (m + 1 + 1)) (l1.drop (m + 1 + 1)) by rw [R.out, PV2.out, OKD.out, RW.out]; rfl); clear hlt2; go_wp2
             go_roundg (l1.length - (m + 1 + 1))
             case measure => have := L.out; omega
             case rel => exact ⟨m + 1 + 1, zz1b L, zz1l, zz1j, J5, ⟨fun z_ hz_ => by rw [PRN.out] at hz_; cases hz_; exact H1x.out⟩, BK, HB⟩
         | false =>
          refine wp_region_later zz1h zz1h ?_; (repeat (go_big_quiet_step (first | (go_at_call 41; with_reducible exact Later.callD (spec_l1In.calls (rd y 0) 0 (wrap64 (a0_0 - 1)) true _ J1.out)) | (go_at_call 78; with_reducible exact Later.callD (CM _ (Later.below _)))))); refine wpQuiet_nil ?_; intro w4_ hw4; obtain ⟨⟨w4, hb4⟩, hw4⟩ := hw4; subst hw4; (try dsimp only); have B4 := zA hb4; clear hb4; have J4 := zA (show listsF a0_0 a0_1 a2 none l1 = false by rw [R.out, PV2.out, OKD.out]; rw [Bool.false_and, Bool.and_false]); clear q0 q1 hd; go_wp2; go_ret; exact ⟨zz1e J4, zG HB.out B4.out⟩
      · have J1 := zA (show spec_l1In.f (rd y 0) 0 (wrap64 (a0_0 - 1)) = some false by rw [l1In_eq, decide_eq_false h2]); have W3 := zA (show rowOk a0_0 a0_1 a2 y = false by unfold rowOk; rw [decide_eq_false h2]; simp); clear h2; refine wp_region_later zz1h zz1h ?_; (repeat (go_big_quiet_step (first | (go_at_call 41; with_reducible exact Later.callD (spec_l1In.calls (rd y 0) 0 (wrap64 (a0_0 - 1)) false _ J1.out))))); refine wpQuiet_nil ?_; intro w4_ hw4; obtain ⟨⟨w4, hb4⟩, hw4⟩ := hw4; subst hw4; (try dsimp only); have B4 := zA hb4; clear hb4; have J4 := zA (show listsF a0_0 a0_1 a2 none l1 = false by rw [R.out, OKD.out]; rw [W3.out, Bool.false_and]); clear q0 q1 hd; go_wp2; go_ret; exact ⟨zz1e J4, zG HB.out B4.out⟩
    · have e1 : ((y.length : Int) != a2) = true := by simpa using h1
      have W3 := zA (show rowOk a0_0 a0_1 a2 y = false by unfold rowOk; rw [decide_eq_false h1]; simp); clear h1; refine wp_region_later zz1h zz1h ?_; (repeat (go_big_quiet_step (fail))); refine wpQuiet_nil ?_; intro w4_ hw4; obtain ⟨⟨w4, hb4⟩, hw4⟩ := hw4; subst hw4; (try dsimp only); have B4 := zA hb4; clear hb4; have J4 := zA (show listsF a0_0 a0_1 a2 none l1 = false by rw [R.out, OKD.out]; rw [W3.out, Bool.false_and]); clear q0 q1 hd; go_wp2; go_ret; exact ⟨zz1e J4, zG HB.out B4.out⟩
  · have hd : decide (kk < l1.length) = false := decide_eq_false hlt; have FIN := zA (show listsF a0_0 a0_1 a2 none l1 = true by rw [R.out, List.drop_of_length_le zz1l]; cases kk <;> rfl); clear hlt; go_wp2; go_ret; exact ⟨zz1e FIN, HB.out⟩
end Go.Proofs.YtkocahlifffgjaaGreat.P
namespace Go.Proofs.YtkocahlifffgjaaGreat.P
open Go.RowKit Go.Proofs.YtkocahlifffgjaaGreatW.PrintWords Go.Proofs.YtkocahlifffgjaaGreatW.PrintLast Go.Proofs.YtkocahlifffgjaaGreatW.PrintMore
attribute [local go_sem] max2_int min2_int max_two min_two max_three min_three max_four min_four
set_option linter.unusedVariables false
set_option linter.unusedSimpArgs false
mutual
def spec_GoodBinary.j0 : Nat → Bool → Int → Int → List (List Int) → List (List Int) → List Int → List (List Int) → Option (Bool)
 | 0, _, _, _, _, _, _, _ => none
 | k + 1, x22, aV, aN, aJ, aQ, aX, aW => if x22 = true then (some false) else (spec_GoodBinary.l0 k aW (aW.length : Int) 0 aV aN aJ aQ aX aW)
def spec_GoodBinary.l0 : Nat → List (List Int) → Int → Int → Int → Int → List (List Int) → List (List Int) → List Int → List (List Int) → Option (Bool)
 | 0, _, _, _, _, _, _, _, _, _ => none
 | k + 1, il, jg, h6, aV, aN, aJ, aQ, aX, aW => if h6 < jg then (if 0 ≤ h6 then (if h6 < (il.length : Int) then (if ((rd_L1 il h6).length : Int) = 2 then (spec_GoodBinary.l0 k il jg (wrap64 (h6 + 1)) aV aN aJ aQ aX aW) else (some false)) else (none)) else (none)) else ((spec_l5Rising.f aV aN aJ aQ aX aW aJ 3).bind fun da => (if da = true then ((spec_l5Rising.f aV aN aJ aQ aX aW aQ 2).bind fun cB => (if cB = true then ((spec_l1Rising.f k aX 0 (wrap64 (aV - 1))).bind fun cq => (some cq)) else (some false))) else (some false)))
end
def spec_GoodBinary.f (k : Nat) (af : Int) (aj : Int) (ab : List (List Int)) (ae : List (List Int)) (ai : List Int) (ag : List (List Int)) : Option (Bool) := (spec_l1In.f af 1 40).bind fun aE => (if aE = true then ((spec_l1In.f aj 1 4).bind fun bC => (if bC = true then (spec_GoodBinary.j0 k (decide ((ag.length : Int) > af)) af aj ab ae ai ag) else (spec_GoodBinary.j0 k true af aj ab ae ai ag))) else (spec_GoodBinary.j0 k true af aj ab ae ai ag))
set_option maxHeartbeats 8000000 in
set_option maxRecDepth 100000 in
theorem spec_GoodBinary.calls (k : Nat) (af : Int) (aj : Int) (az : Option Addr) (aq : Nat) (ab : List (List Int)) (ay : Option Addr) (av : Nat) (ae : List (List Int)) (ar : Option Addr) (au : Nat) (ai : List Int) (aw : Option Addr) (ax : Nat) (ag : List (List Int)) (r : Bool) (w : World) (bD : Kd.C (Kd.slice 3 (Kd.int .i64)) w az ab.length ab) (bE : ab.length ≤ aq) (bF : Kd.C (Kd.slice 3 (Kd.int .i64)) w ay ae.length ae) (bG : ae.length ≤ av) (bH : Kd.C (Kd.int .i64) w ar ai.length ai) (bI : ai.length ≤ au) (bJ : Kd.C (Kd.slice 3 (Kd.int .i64)) w aw ag.length ag) (bK : ag.length ≤ ax) (h : spec_GoodBinary.f k af aj ab ae ai ag = some r) :
 Calls Tryz.prog 39 #[.agg #[.int .i64 af, .int .i64 aj, .slice az ab.length aq, .slice ay ae.length av, .slice ar ai.length au, .slice aw ag.length ax]] w fun e w' => e = .returned (.bool r) ∧ Below w.heap.size w w' := by
 have hu32 := Tryz.underlying32; have bq := zA bD; have bL := zA bE; clear bD bE; have bu := zA bF; have bO := zA bG; clear bF bG; have bP := zA bH; have bQ := zA bI; clear bH bI; have bR := zA bJ; have bV := zA bK; clear bJ bK; have HB := zA (Below.refl w.heap.size w); have H : ((spec_l1In.f af 1 40).bind fun aE => (if aE = true then ((spec_l1In.f aj 1 4).bind fun bC => (if bC = true then (spec_GoodBinary.j0 k (decide ((ag.length : Int) > af)) af aj ab ae ai ag) else (spec_GoodBinary.j0 k true af aj ab ae ai ag))) else (spec_GoodBinary.j0 k true af aj ab ae ai ag))) = some r := h; clear h; have kb := zA H; clear H; go_enter Tryz.func39, Tryz.ntmps39
 go_upto_region 1 with (first | ((with_reducible refine gate_dst (N := 1) rfl ?_); (try (refine gate_guard zz1n ?_; dsimp only)); refine box_event ?hg (N := 1) ?hd (cs := #[.int .i64 af, .int .i64 aj, .slice az ab.length aq, .slice ay ae.length av, .slice ar ai.length au, .slice aw ag.length ax]) (t := 32) ?hr ?_; (case hd => rfl); (case hg => rfl); (case hr => first | (go_simp; done) | (go_simp; rfl)); intro ad hg w3 hbox hb; have aa := zA (hbox); have b0 := zA ((by rw [hg]; exact (zF (zz0u HB)) : w.heap.size ≤ ad)); have ac := zA ((by rw [hg]; exact (zF (zz0u HB)) : w.heap.size ≤ ad)); replace HB := zA (zG (zz0u HB) hb); clear hb hbox hg))
 (try simp only [Act.put, List.setIfInBounds_toArray, List.set_cons_zero, List.set_cons_succ])
 go_cut [22] (fun v22 wc => ∃ (kq : Nat) (ls : Bool), v22 = .bool ls ∧ Aside0 (spec_GoodBinary.j0 kq ls af aj ab ae ai ag = some r) ∧ Aside0 (kq ≤ k) ∧ Aside0 (wc.heap[ad]? = some (.cells #[.int .i64 af, .int .i64 aj, (.slice az ab.length aq), (.slice ay ae.length av), (.slice ar ai.length au), (.slice aw ag.length ax)] 32 (0, 0))) ∧ Aside0 (Below w.heap.size w wc))
 case first =>
  have H := kb.out; clear kb; replace H := Option.bind_eq_some_iff.mp H; obtain ⟨aE, ik, H⟩ := H; have A4 := zA ik; clear ik; by_cases c5 : aE = true
  · subst c5; rw [if_pos rfl] at H; replace H := Option.bind_eq_some_iff.mp H; obtain ⟨bC, kO, H⟩ := H; have A6 := zA kO; clear kO; by_cases c7 : bC = true
    · subst c7; rw [if_pos rfl] at H; have H' := zA H; clear H; obtain ⟨fE, fF, gc, gd, gf, gg⟩ := zk6 aa.out; go_wp2_with (first | ((with_reducible refine gate_callee (f := 41) rfl ?_); refine goesL_ (some 7) rfl rfl Tryz.func41 zz1h rfl #[.int .i64 af, .int .i64 1, .int .i64 40] rfl zz0h ?_; (with_reducible refine (spec_l1In.calls af 1 40 true _ A4.out).mono ?_); rintro e w' ⟨rfl, ⟨nd, rfl⟩⟩; refine ⟨_, rfl, ?_⟩) | (go_at_call 41; (with_reducible refine (spec_l1In.calls aj 1 4 true _ A6.out).mono ?_); rintro e w' ⟨rfl, ⟨nd, rfl⟩⟩))
      go_meet
      case rel => exact ⟨_, (decide ((ag.length : Int) > af)), zz12, H', ⟨by first | omega | exact Nat.le_refl _⟩, ⟨zz0w aa⟩, ⟨zz0l HB ac⟩⟩
    · replace c7 := Bool.eq_false_iff.mpr c7; subst c7; rw [if_neg zFt] at H; have H' := zA H; clear H; obtain ⟨hx, hz, kJ, kK, kL, kM⟩ := zk6 aa.out; go_wp2_with (first | ((with_reducible refine gate_callee (f := 41) rfl ?_); refine goesL_ (some 7) rfl rfl Tryz.func41 zz1h rfl #[.int .i64 af, .int .i64 1, .int .i64 40] rfl zz0h ?_; (with_reducible refine (spec_l1In.calls af 1 40 true _ A4.out).mono ?_); rintro e w' ⟨rfl, ⟨nd, rfl⟩⟩; refine ⟨_, rfl, ?_⟩) | (go_at_call 41; (with_reducible refine (spec_l1In.calls aj 1 4 false _ A6.out).mono ?_); rintro e w' ⟨rfl, ⟨nd, rfl⟩⟩))
      go_meet
      case rel => exact ⟨_, (true), zz12, H', ⟨by first | omega | exact Nat.le_refl _⟩, ⟨zz0w aa⟩, ⟨zz0l HB ac⟩⟩
  · replace c5 := Bool.eq_false_iff.mpr c5; subst c5; rw [if_neg zFt] at H; have H' := zA H; clear H; obtain ⟨fa, fb, jj, jk, jl, jm⟩ := zk6 aa.out; go_wp2_with (first | ((with_reducible refine gate_callee (f := 41) rfl ?_); refine goesL_ (some 7) rfl rfl Tryz.func41 zz1h rfl #[.int .i64 af, .int .i64 1, .int .i64 40] rfl zz0h ?_; (with_reducible refine (spec_l1In.calls af 1 40 false _ A4.out).mono ?_); rintro e w' ⟨rfl, ⟨nd, rfl⟩⟩; refine ⟨_, rfl, ?_⟩))
    go_meet
    case rel => exact ⟨_, (true), zz12, H', ⟨by first | omega | exact Nat.le_refl _⟩, ⟨zz0w aa⟩, ⟨zz0l HB ac⟩⟩
 case rest =>
  clear kb; (try clear p2); (try clear c3); (try clear c4); (try clear c5); (try clear c7); (try clear fa); (try clear fb); (try clear jj); (try clear jk); (try clear jl); (try clear jm); (try clear fE); (try clear fF); (try clear gc); (try clear gd); (try clear gf); (try clear gg); (try clear hx); (try clear hz); (try clear kJ); (try clear kK); (try clear kL); (try clear kM); obtain ⟨kq, ls, rfl, HA, HJ1, aa, HB⟩ := hcut; cases kq with
  | zero => exact absurd HA.out (by simp [spec_GoodBinary.j0])
  | succ kj1 =>
   have H := HA.out; clear HA; simp only [spec_GoodBinary.j0] at H; by_cases fy : ls = true
   · subst fy; rw [if_pos rfl] at H; obtain rfl := Option.some.inj H; go_wp2; go_ret; exact ⟨zz0v, zz0l HB ac⟩
   · replace fy := Bool.eq_false_iff.mpr fy; subst fy; rw [if_neg zFt] at H; have H' := zA H; clear H; obtain ⟨lt, lu, lv, lw, lx, ly⟩ := zk6 aa.out; go_wp2; go_loopg [26] kj1 (fun kq r7 w' => ∃ (aG : Int), r7 = .int .i64 aG ∧ Aside0 (spec_GoodBinary.l0 kq ag (ag.length : Int) aG af aj ab ae ai ag = some r) ∧ Aside0 (kq ≤ kj1) ∧ Aside0 (w'.heap[ad]? = some (.cells #[.int .i64 af, .int .i64 aj, (.slice az ab.length aq), (.slice ay ae.length av), (.slice ar ai.length au), (.slice aw ag.length ax)] 32 (0, 0))) ∧ Aside0 (Below w.heap.size w w'))
     case atStart => exact ⟨(0), zz12, H', ⟨Nat.le_refl _⟩, ⟨zz0w aa⟩, ⟨zz0l HB ac⟩⟩
     case round =>
      clear H'; (try clear c1); (try clear p2); (try clear c3); (try clear c4); (try clear c5); (try clear c7); (try clear fy); (try clear fa); (try clear fb); (try clear jj); (try clear jk); (try clear jl); (try clear jm); (try clear lt); (try clear lu); (try clear lv); (try clear lw); (try clear lx); (try clear ly); (try clear fE); (try clear fF); (try clear gc); (try clear gd); (try clear gf); (try clear gg); (try clear hx); (try clear hz); (try clear kJ); (try clear kK); (try clear kL); (try clear kM); (try clear p2); obtain ⟨aG, rfl, HA, cN, aa, HB⟩ := hrel; cases gk with
      | zero => exact absurd HA.out (by simp [spec_GoodBinary.l0])
      | succ k2 =>
       have H := HA.out; clear HA; simp only [spec_GoodBinary.l0] at H; by_cases fz : aG < (ag.length : Int)
       · rw [if_pos fz] at H; have iw := decide_eq_true fz; clear fz; replace H := zIn H; obtain ⟨jZ, H⟩ := H; have jy : decide (0 ≤ aG) = true := decide_eq_true jZ; clear jZ; replace H := zIn H; obtain ⟨hD, H⟩ := H; have gT : decide (aG < (ag.length : Int)) = true := decide_eq_true hD; clear hD; by_cases gF : ((rd_L1 ag aG).length : Int) = 2
         · rw [if_pos gF] at H; have iC : (((rd_L1 ag aG).length : Int) == 2) = true := beq_iff_eq.mpr gF; have c16b1 : (((rd_L1 ag aG).length : Int) != 2) = false := bne_eq_false_iff_eq.mpr gF; clear gF; have H' := zA H; clear H; have dy : 0 ≤ (aG : Int) := of_decide_eq_true zz1g; have dz : aG < (ag.length : Int) := of_decide_eq_true zz1g; obtain ⟨gP, gG, gH, f5, bS, cC, cD⟩ := at_L1 bR.out aG dy dz; cases f5; replace bS := (HB.out.cell (World.block_lt_of_cell? w _ bS)).trans bS; have dt := zA cD; have fM := zA cC; clear cD cC; replace dy := eq_true dy; replace dz := eq_true dz; go_wp2
           go_roundg k2
           case measure => have := HJ1.out; have := cN.out; omega
           case rel => exact ⟨(wrap64 (aG + 1)), zz12, H', ⟨zz18 HJ1 cN⟩, ⟨zz0w aa⟩, ⟨zz0l HB ac⟩⟩
         · rw [if_neg gF] at H; have iC : (((rd_L1 ag aG).length : Int) == 2) = false := beq_eq_false_iff_ne.mpr gF; have c16b1 : (((rd_L1 ag aG).length : Int) != 2) = true := bne_iff_ne.mpr gF; obtain rfl := Option.some.inj H; have dy : 0 ≤ (aG : Int) := of_decide_eq_true zz1g; have dz : aG < (ag.length : Int) := of_decide_eq_true zz1g; obtain ⟨gP, gG, gH, f5, bS, cC, cD⟩ := at_L1 bR.out aG dy dz; cases f5; replace bS := (HB.out.cell (World.block_lt_of_cell? w _ bS)).trans bS; have dt := zA cD; have fM := zA cC; clear cD cC; replace dy := eq_true dy; replace dz := eq_true dz; go_wp2; go_ret; exact ⟨zz0v, zz0l HB ac⟩
       · rw [if_neg fz] at H; have iw := decide_eq_false fz; clear fz; replace H := Option.bind_eq_some_iff.mp H; obtain ⟨da, nm, H⟩ := H; have rm := zA nm; clear nm; by_cases gK : da = true
         · subst gK; rw [if_pos rfl] at H; replace H := Option.bind_eq_some_iff.mp H; obtain ⟨cB, mE, H⟩ := H; have qN := zA mE; clear mE; by_cases g3 : cB = true
           · subst g3; rw [if_pos rfl] at H; replace H := Option.bind_eq_some_iff.mp H; obtain ⟨cq, mF, H⟩ := H; have qo := zA mF; clear mF; obtain rfl := Option.some.inj H; obtain ⟨hh, hj, hcz22_2, hcz22_3, hcz22_4, hcz22_5⟩ := zk6 aa.out; go_wp2_with (first | ((with_reducible refine gate_callee (f := 64) rfl ?_); refine goesL_ (some 37) rfl rfl Tryz.func64 zz1h rfl #[.agg #[.int .i64 af, .int .i64 aj, .slice az ab.length aq, .slice ay ae.length av, .slice ar ai.length au, .slice aw ag.length ax], .slice az ab.length aq, .int .i64 3] rfl zz0h ?_; (with_reducible refine (spec_l5Rising.calls af aj _ _ ab _ _ ae _ _ ai _ _ ag _ _ ab 3 true _ ?al ?am ?aK ?aM ?bl ?bm ?bn ?bo ?cw ?b4 rm.out).mono ?_); (case al => exact (zz0x bq HB)); (case am => exact bL.out); (case aK => exact (zz0x bu HB)); (case aM => exact bO.out); (case bl => exact (zz0x bP HB)); (case bm => exact bQ.out); (case bn => exact (zz0x bR HB)); (case bo => exact bV.out); (case cw => exact (zz0x bq HB)); (case b4 => exact bL.out); rintro e qn ⟨rfl, hb⟩; refine ⟨_, rfl, ?_⟩; replace aa := zA (zMp aa.out hb); replace HB := zA (zG (zz0l HB ac) hb); (try clear hb); (try clear hb2); (try clear hk); (try clear hi); obtain ⟨kW, kX, kY, kZ, k0, k4⟩ := zk6 aa.out; have k5 := zL aa.out 5) | (go_at_call 64; (with_reducible refine (spec_l5Rising.calls af aj _ _ ab _ _ ae _ _ ai _ _ ag _ _ ae 2 true _ ?al ?am ?aK ?aM ?bl ?bm ?bn ?bo ?cw ?b4 qN.out).mono ?_); (case al => exact (zz0x bq HB)); (case am => exact bL.out); (case aK => exact (zz0x bu HB)); (case aM => exact bO.out); (case bl => exact (zz0x bP HB)); (case bm => exact bQ.out); (case bn => exact (zz0x bR HB)); (case bo => exact bV.out); (case cw => exact (zz0x bu HB)); (case b4 => exact bO.out); rintro e w25 ⟨rfl, hb⟩; replace aa := zA (zMp aa.out hb); replace HB := zA (zG (zz0l HB ac) hb); (try clear hb); (try clear hb2); (try clear hk); (try clear hi); obtain ⟨i5, i6, la, lb, lc, ld⟩ := zk6 aa.out; have hfz26_5 := zL aa.out 5) | (go_at_call 42; (with_reducible refine (spec_l1Rising.calls k2 _ _ ai 0 (wrap64 (af - 1)) cq _ ?al ?am qo.out).mono ?_); (case al => exact (zz0x bP HB)); (case am => exact bQ.out); rintro e w' ⟨rfl, ⟨nd, rfl⟩⟩)); go_ret; exact ⟨zz0v, zz0l HB ac⟩
           · replace g3 := Bool.eq_false_iff.mpr g3; subst g3; rw [if_neg zFt] at H; obtain rfl := Option.some.inj H; obtain ⟨hcz27_0, hcz27_1, hcz27_2, hcz27_3, hcz27_4, hcz27_5⟩ := zk6 aa.out; go_wp2_with (first | ((with_reducible refine gate_callee (f := 64) rfl ?_); refine goesL_ (some 37) rfl rfl Tryz.func64 zz1h rfl #[.agg #[.int .i64 af, .int .i64 aj, .slice az ab.length aq, .slice ay ae.length av, .slice ar ai.length au, .slice aw ag.length ax], .slice az ab.length aq, .int .i64 3] rfl zz0h ?_; (with_reducible refine (spec_l5Rising.calls af aj _ _ ab _ _ ae _ _ ai _ _ ag _ _ ab 3 true _ ?al ?am ?aK ?aM ?bl ?bm ?bn ?bo ?cw ?b4 rm.out).mono ?_); (case al => exact (zz0x bq HB)); (case am => exact bL.out); (case aK => exact (zz0x bu HB)); (case aM => exact bO.out); (case bl => exact (zz0x bP HB)); (case bm => exact bQ.out); (case bn => exact (zz0x bR HB)); (case bo => exact bV.out); (case cw => exact (zz0x bq HB)); (case b4 => exact bL.out); rintro e sB ⟨rfl, hb⟩; refine ⟨_, rfl, ?_⟩; replace aa := zA (zMp aa.out hb); replace HB := zA (zG (zz0l HB ac) hb); (try clear hb); (try clear hb2); (try clear hk); (try clear hi); obtain ⟨hcz29_0, hcz29_1, hcz29_2, hcz29_3, hcz29_4, hcz29_5⟩ := zk6 aa.out; have hfz29_5 := zL aa.out 5) | (go_at_call 64; (with_reducible refine (spec_l5Rising.calls af aj _ _ ab _ _ ae _ _ ai _ _ ag _ _ ae 2 false _ ?al ?am ?aK ?aM ?bl ?bm ?bn ?bo ?cw ?b4 qN.out).mono ?_); (case al => exact (zz0x bq HB)); (case am => exact bL.out); (case aK => exact (zz0x bu HB)); (case aM => exact bO.out); (case bl => exact (zz0x bP HB)); (case bm => exact bQ.out); (case bn => exact (zz0x bR HB)); (case bo => exact bV.out); (case cw => exact (zz0x bu HB)); (case b4 => exact bO.out); rintro e sC ⟨rfl, hb⟩; replace aa := zA (zMp aa.out hb); replace HB := zA (zG (zz0l HB ac) hb); (try clear hb); (try clear hb2); (try clear hk); (try clear hi))); go_ret; exact ⟨zz0v, zz0l HB ac⟩
         · replace gK := Bool.eq_false_iff.mpr gK; subst gK; rw [if_neg zFt] at H; obtain rfl := Option.some.inj H; obtain ⟨hcz31_0, hcz31_1, hcz31_2, hcz31_3, hcz31_4, hcz31_5⟩ := zk6 aa.out; go_wp2_with (first | ((with_reducible refine gate_callee (f := 64) rfl ?_); refine goesL_ (some 37) rfl rfl Tryz.func64 zz1h rfl #[.agg #[.int .i64 af, .int .i64 aj, .slice az ab.length aq, .slice ay ae.length av, .slice ar ai.length au, .slice aw ag.length ax], .slice az ab.length aq, .int .i64 3] rfl zz0h ?_; (with_reducible refine (spec_l5Rising.calls af aj _ _ ab _ _ ae _ _ ai _ _ ag _ _ ab 3 false _ ?al ?am ?aK ?aM ?bl ?bm ?bn ?bo ?cw ?b4 rm.out).mono ?_); (case al => exact (zz0x bq HB)); (case am => exact bL.out); (case aK => exact (zz0x bu HB)); (case aM => exact bO.out); (case bl => exact (zz0x bP HB)); (case bm => exact bQ.out); (case bn => exact (zz0x bR HB)); (case bo => exact bV.out); (case cw => exact (zz0x bq HB)); (case b4 => exact bL.out); rintro e so ⟨rfl, hb⟩; refine ⟨_, rfl, ?_⟩; replace aa := zA (zMp aa.out hb); replace HB := zA (zG (zz0l HB ac) hb); (try clear hb); (try clear hb2); (try clear hk); (try clear hi))); go_ret; exact ⟨zz0v, zz0l HB ac⟩
end Go.Proofs.YtkocahlifffgjaaGreat.P
namespace Go.Proofs.YtkocahlifffgjaaGreat.P
open Go.RowKit Go.Proofs.YtkocahlifffgjaaGreatW.PrintWords
set_option linter.unusedVariables false
set_option linter.unusedSimpArgs false
theorem l1Rising_loop (l : List Int) (lo hi : Int) (hb : l.length ≤ 9223372036854775807) (d : Nat) : ∀ (k i : Nat), i ≤ l.length → l.length - i = d → d < k →
 spec_l1Rising.l0 k l lo hi l l.length i = some (riseF lo hi (prevI l i) (l.drop i)) := by
 induction d with
 | zero =>
  intro k i h1 hd hk; obtain ⟨k, rfl⟩ : ∃ m, k = m + 1 := ⟨k - 1, zz1l⟩
  simp only [spec_l1Rising.l0]; rw [if_neg zz1l, List.drop_of_length_le (show l.length ≤ i by omega)]; cases i <;> rfl
 | succ d ih =>
  intro k i h1 hd hk; obtain ⟨k, rfl⟩ : ∃ m, k = m + 1 := ⟨k - 1, zz1l⟩
  have hi2 := ih k (i + 1) zz1l zz1l zz1l; simp only [spec_l1Rising.l0]; rw [if_pos zz1l, if_pos zz1l, if_pos zz1l, l1In_eq, getD_drop l i 0 zz1l]; simp only [Option.bind_some]; have e0 : l.getD i 0 = rd l i := rfl; rw [e0]; have ew : wrap64 ((i : Int) + 1) = ((i + 1 : Nat) : Int) := by unfold wrap64; omega
  have er : ∀ p m, riseF lo hi p (rd l i :: m) = (decide (lo ≤ rd l i ∧ rd l i ≤ hi) && ((match p with | none => true | some y => decide (y < rd l i)) && riseF lo hi (some (rd l i)) m)) := fun _ _ => rfl
  rw [er]; by_cases h : lo ≤ rd l i ∧ rd l i ≤ hi
  · rw [if_pos (decide_eq_true h), decide_eq_true h, Bool.true_and]; cases i with
    | zero => rw [if_neg zz1m, ew, hi2]; rfl
    | succ i =>
     have e1 : wrap64 (((i + 1 : Nat) : Int) - 1) = (i : Int) := by unfold wrap64; omega
     rw [if_pos zz1l, e1, if_pos zz1l, if_pos zz1l]; show _ = some (decide (rd l i < rd l ((i + 1 : Nat) : Int)) && _); by_cases h2 : rd l i < rd l ((i + 1 : Nat) : Int)
     · rw [if_neg zz1l, ew, hi2, decide_eq_true h2]; rfl
     · rw [if_pos zz1l, decide_eq_false h2]; rfl
  · rw [if_neg (by rw [decide_eq_false h]; exact Bool.false_ne_true), decide_eq_false h, Bool.false_and]
theorem l1Rising_eq (l : List Int) (lo hi : Int) (hb : l.length ≤ 9223372036854775807) (k : Nat) (hk : l.length < k) : spec_l1Rising.f k l lo hi = some (riseF lo hi none l) := by
 unfold spec_l1Rising.f; have := l1Rising_loop l lo hi hb l.length k 0 zz1l zz1l hk; simpa [prevI] using this
theorem goodB_from (a0 a1 : Int) (l2 l3 : List (List Int)) (l4 : List Int) (l5 : List (List Int)) (h : smallB l2 l3 l4 l5) (d : Nat) : ∀ (i : Nat), i ≤ l5.length → l5.length - i = d →
 Ev (fun k => spec_GoodBinary.l0 k l5 l5.length i a0 a1 l2 l3 l4 l5) (!((l5.drop i).any fun f => (f.length : Int) != 2) && (listsF a0 a1 3 none l2 && (listsF a0 a1 2 none l3 && riseF 0 (wrap64 (a0 - 1)) none l4))) := by
 have hb5 := h.2.2.2.1; have hb4 := h.2.2.1
 induction d with
 | zero =>
  intro i h1 hd; refine ⟨l4.length + 2, fun k hk => ?_⟩; dsimp only; obtain ⟨k, rfl⟩ : ∃ m, k = m + 1 := ⟨k - 1, zz1l⟩
  simp only [spec_GoodBinary.l0]; rw [if_neg zz1l, List.drop_of_length_le zz1l]; unfold spec_l5Rising.f; rw [if_pos zz1k, if_pos zz1k]; simp only [Option.bind_some]; cases listsF a0 a1 3 none l2 with
  | false => rfl
  | true =>
   rw [if_pos rfl]; cases listsF a0 a1 2 none l3 with
   | false => rfl
   | true =>
    rw [if_pos rfl, l1Rising_eq l4 0 (wrap64 (a0 - 1)) zz1l k zz1l]; rfl
 | succ d ih =>
  intro i h1 hd; obtain ⟨K, hi⟩ := ih (i + 1) zz1l zz1l; dsimp only at hi; refine ⟨K + 1, fun k hk => ?_⟩; dsimp only; obtain ⟨k, rfl⟩ : ∃ m, k = m + 1 := ⟨k - 1, zz1l⟩
  simp only [spec_GoodBinary.l0]; rw [if_pos zz1l, if_pos zz1l, if_pos zz1l, getD_drop l5 i [] zz1l, List.any_cons]; have e0 : l5.getD i [] = rd_L1 l5 i := rfl; rw [e0]; by_cases h2 : ((rd_L1 l5 i).length : Int) = 2
  · rw [if_pos h2, show wrap64 ((i : Int) + 1) = ((i + 1 : Nat) : Int) by unfold wrap64; omega, hi k zz1l, show (((rd_L1 l5 i).length : Int) != 2) = false by rw [h2]; rfl, Bool.false_or]
  · rw [if_neg h2, show (((rd_L1 l5 i).length : Int) != 2) = true by simpa using h2]; rfl
theorem spec_GoodBinary_ev (a0 a1 : Int) (l2 l3 : List (List Int)) (l4 : List Int) (l5 : List (List Int)) (h : smallB l2 l3 l4 l5) : Ev (fun k => spec_GoodBinary.f k a0 a1 l2 l3 l4 l5) (goodB a0 a1 l2 l3 l4 l5) := by
 obtain ⟨K, hk0⟩ := goodB_from a0 a1 l2 l3 l4 l5 h l5.length 0 zz1l zz1l; dsimp only at hk0; rw [List.drop_zero] at hk0; refine ⟨K + 1, fun k hk => ?_⟩; dsimp only; obtain ⟨k, rfl⟩ : ∃ m, k = m + 1 := ⟨k - 1, zz1l⟩
 unfold spec_GoodBinary.f goodB; rw [l1In_eq, l1In_eq]; simp only [Option.bind_some]; by_cases h1 : 1 ≤ a0 ∧ a0 ≤ 40
 · rw [decide_eq_true h1, if_pos rfl]; by_cases h2 : 1 ≤ a1 ∧ a1 ≤ 4
   · rw [decide_eq_true h2, if_pos rfl]; simp only [spec_GoodBinary.j0]; by_cases h3 : (l5.length : Int) ≤ a0
     · rw [decide_eq_false zz1l, if_neg zz1k, decide_eq_true h3]; have := hk0 k zz1l; rw [show ((0 : Nat) : Int) = 0 from rfl] at this; rw [this]; congr 1; cases (l5.any fun f => (f.length : Int) != 2) <;> cases listsF a0 a1 3 none l2 <;> cases listsF a0 a1 2 none l3 <;> cases riseF 0 (wrap64 (a0 - 1)) none l4 <;> rfl
     · rw [decide_eq_true zz1l, if_pos rfl, decide_eq_false h3]; cases riseF 0 (wrap64 (a0 - 1)) none l4 <;> rfl
   · rw [decide_eq_false h2, if_neg zz1k]; simp only [spec_GoodBinary.j0]; rfl
 · rw [decide_eq_false h1, if_neg zz1k]; simp only [spec_GoodBinary.j0]; rfl
end Go.Proofs.YtkocahlifffgjaaGreat.P
namespace Go.Proofs.YtkocahlifffgjaaGreat.P
open Go.RowKit Go.Proofs.YtkocahlifffgjaaGreatW.PrintWords Go.Proofs.YtkocahlifffgjaaGreatW.PrintLast Go.Proofs.YtkocahlifffgjaaGreatW.PrintMore
set_option linter.unusedVariables false
set_option linter.unusedSimpArgs false
structure UrS (w2 W : World) (bm : Nat) (D : DataW Value) (S : List Int) (u6 u8 : Value) (out todo : List Int) : Prop where
 below : Below w2.heap.size w2 W
 ho : Kd.R (Kd.int .i64) 3 W w2.heap.size (fun k => True ∧ some k ≠ u8.ownBlock) u6 out
 hq : Kd.Q (Kd.int .i64) 3 W w2.heap.size (fun k => True ∧ some k ≠ u6.ownBlock) u8 todo
 ow : W.ownsMap Tryz.prog 3 asIs bm S.length D
 ge : w2.heap.size ≤ bm
 ms : MapS D S
section
variable {w2 W V : World} {bm : Nat} {D : DataW Value} {S out todo : List Int} {u6 u8 : Value}
theorem ownsMap_ne {base e : Nat} {ok : Nat → Prop} {v : Value} {xs : List Int} {n : Nat} (h : W.ownsMap Tryz.prog 3 asIs bm n D) (hr : ∀ k, v.ownBlock = some k → ∃ cells, W.heap[k]? = some (.cells cells e (0, 0))) : some bm ≠ v.ownBlock := fun he => by
 obtain ⟨cells, hc⟩ := hr bm he.symm; obtain ⟨es, clock, hb, _⟩ := h; rw [hb] at hc; cases hc
theorem Q_typed {base e : Nat} {ok : Nat → Prop} {v : Value} {xs : List Int} (h : Kd.Q (Kd.int .i64) e W base ok v xs) : ∀ k, v.ownBlock = some k → ∃ cells, W.heap[k]? = some (.cells cells e (0, 0)) := fun k hk => by
 obtain ⟨_, _, _, q, hq, cells, hc⟩ := (Kd.Q_bound h).1 k hk; rw [show q = e from by simpa [Kd.int, Kd.scalar] using hq] at hc; exact ⟨cells, hc⟩
theorem UrS.mo (h : UrS w2 W bm D S u6 u8 out todo) : some bm ≠ u6.ownBlock := ownsMap_ne (base := 0) (ok := fun _ => True) (xs := []) h.ow (Kd.R_typed h.ho)
theorem UrS.mq (h : UrS w2 W bm D S u6 u8 out todo) : some bm ≠ u8.ownBlock := ownsMap_ne (base := 0) (ok := fun _ => True) (xs := []) h.ow (Q_typed h.hq)
theorem UrS.newo (h : UrS w2 W bm D S u6 u8 out todo) : ∀ k, W.heap.size ≤ k → True ∧ some k ≠ u8.ownBlock := fun k hk => ⟨trivial, fun e => by have := Kd.Q_lt h.hq k e.symm; omega⟩
theorem UrS.newq (h : UrS w2 W bm D S u6 u8 out todo) : ∀ k, W.heap.size ≤ k → True ∧ some k ≠ u6.ownBlock := fun k hk => ⟨trivial, fun e => by have := Kd.R_lt h.ho k e.symm; omega⟩
theorem UrS.addo (h : UrS w2 W bm D S u6 u8 out todo) {v1 : Value} {out' : List Int} (ho : Kd.R (Kd.int .i64) 3 V w2.heap.size (fun k => True ∧ some k ≠ u8.ownBlock) v1 out') (hb : Below w2.heap.size w2 V) (hg : W.grownBy V u6.ownBlock) (hat : v1.ownBlock = u6.ownBlock ∨ ∃ b, v1.ownBlock = some b ∧ W.heap.size ≤ b) : UrS w2 V bm D S v1 u8 out' todo :=
 ⟨hb, ho, Kd.Q_after h.hq hg hat, h.ow.kept hg h.mo, h.ge, h.ms⟩
theorem UrS.addq (h : UrS w2 W bm D S u6 u8 out todo) {v1 : Value} {todo' : List Int} (hq : Kd.Q (Kd.int .i64) 3 V w2.heap.size (fun k => True ∧ some k ≠ u6.ownBlock) v1 todo') (hb : Below w2.heap.size w2 V) (hg : W.grownBy V u8.ownBlock) (hat : v1.ownBlock = u8.ownBlock ∨ ∃ b, v1.ownBlock = some b ∧ W.heap.size ≤ b) : UrS w2 V bm D S u6 v1 out todo' :=
 ⟨hb, Kd.R_after h.ho hg hat, hq, h.ow.kept hg h.mq, h.ge, h.ms⟩
theorem UrS.cut (h : UrS w2 W bm D S u6 u8 out todo) {v1 : Value} {todo' : List Int} (hv : v1.ownBlock = u8.ownBlock ∨ v1.ownBlock = none) (hq : Kd.Q (Kd.int .i64) 3 W w2.heap.size (fun k => True ∧ some k ≠ u6.ownBlock) v1 todo') : UrS w2 W bm D S u6 v1 out todo' :=
 ⟨h.below, Kd.R_mono h.ho (fun k hk => ⟨trivial, fun e => by
  rcases hv with e2 | e2
  · exact hk.2 (e.trans e2)
  · rw [e2] at e; cases e⟩), hq, h.ow, h.ge, h.ms⟩
theorem UrS.seen (h : UrS w2 W bm D S u6 u8 out todo) {y : Int} (ow : V.ownsMap Tryz.prog 3 asIs bm (S.length + 1) (D.put (.int .i64 y) (.held (.bool true)))) (hg : W.grownBy V (some bm)) : UrS w2 V bm (D.put (.int .i64 y) (.held (.bool true))) (S ++ [y]) u6 u8 out todo :=
 ⟨h.below.grown hg (zF h.below) (fun k hk => by injection hk with hk; rw [← hk]; exact h.ge), Kd.R_grown (Kd.R_tight zz1n h.ho |> fun h2 => Kd.R_mono h2 (fun k hk => (⟨h.ho.1 k hk.symm, hk⟩ : (True ∧ some k ≠ u8.ownBlock) ∧ some k = u6.ownBlock))) hg (fun k hk e => h.mo (e.symm.trans hk.2)) |> fun h2 => Kd.R_mono h2 (fun k hk => hk.1), Kd.Q_grown2 h.hq zz1n hg (fun k hk => by injection hk with hk; rw [← hk]; exact h.mq), by rw [List.length_append]; exact ow, h.ge, mapS_put h.ms y⟩
end
theorem filter_one (z : Int) : [z].filter (fun z => decide (0 ≤ z)) = if 0 ≤ z then [z] else [] := by
 by_cases c : 0 ≤ z
 · rw [if_pos c]; simp [c]
 · rw [if_neg c]; simp [c]
theorem int_wf {z : Int} (h1 : -9223372036854775808 ≤ z) (h2 : z ≤ 9223372036854775807) : (Lit.int .i64 z).wf = true := by
 have e1 : IntKind.i64.min = -9223372036854775808 := by decide
 have e2 : IntKind.i64.max = 9223372036854775807 := by decide
 show (decide (IntKind.i64.min ≤ z) && decide (z ≤ IntKind.i64.max)) = true; rw [e1, e2, decide_eq_true h1, decide_eq_true h2]; rfl
set_option maxRecDepth 100000 in
theorem seen_look {W : World} {bm n : Nat} {D : DataW Value} {S : List Int} (ow : W.ownsMap Tryz.prog 3 asIs bm n D) (ms : MapS D S) {z : Int} (h1 : -9223372036854775808 ≤ z) (h2 : z ≤ 9223372036854775807) : (Instr.lookup 84 (.map (some bm)) (.int .i64 z) false).run Tryz.prog W = .ok (.bool (decide (z ∈ S))) W := by
 obtain ⟨v, ps, hrun, hv⟩ := ow.lookup (t := 84) (e := 4) (Go.Maps.int_keyed Tryz.underlying3) Tryz.underlying84 (z := .bool false) (zd := .held (.bool false)) (zp := []) (by obtain ⟨i0, hi0, hz0, _⟩ := info_parts info_bool; simp [zeroValue, typeInfo, hi0, hz0]) rfl (Go.Maps.keyOf_int_mk Tryz.underlying3 (int_wf h1 h2)); rw [ms.2 z] at hv; have e := (Prod.mk.inj (Option.some.inj hv)).1; injection e with e; rw [hrun, e]
def impl_Binary_unitRow.f (a0_0 a0_1 : Int) (l0_2 l0_3 : List (List Int)) (l0_4 : List Int) (l0_5 : List (List Int)) (a1 : Int) : Option (List Int) :=
 if (goodB a0_0 a0_1 l0_2 l0_3 l0_4 l0_5 = true ∧ l0_2.length ≤ 1048576 ∧ l0_3.length ≤ 1048576) ∧ -a0_1 ≤ a1 ∧ a1 < a0_0 then some (rowU a0_0.toNat (pairsU a0_0.toNat l0_4 l0_3 l0_2) a1) else none
set_option maxHeartbeats 8000000 in
set_option maxRecDepth 100000 in
theorem impl_Binary_unitRow.calls (a0_0 a0_1 : Int) (A0_2 : Option Addr) (c0_2 : Nat) (l0_2 : List (List Int)) (A0_3 : Option Addr) (c0_3 : Nat) (l0_3 : List (List Int)) (A0_4 : Option Addr) (c0_4 : Nat) (l0_4 : List Int) (A0_5 : Option Addr) (c0_5 : Nat) (l0_5 : List (List Int)) (a1 : Int) (r : List Int) (w : World)
 (hr0_2 : Kd.C (Kd.slice 3 (Kd.int .i64)) w A0_2 l0_2.length l0_2) (hc0_2 : l0_2.length ≤ c0_2) (hr0_3 : Kd.C (Kd.slice 3 (Kd.int .i64)) w A0_3 l0_3.length l0_3) (hc0_3 : l0_3.length ≤ c0_3) (hr0_4 : Kd.C (Kd.int .i64) w A0_4 l0_4.length l0_4) (hc0_4 : l0_4.length ≤ c0_4) (hr0_5 : Kd.C (Kd.slice 3 (Kd.int .i64)) w A0_5 l0_5.length l0_5) (hc0_5 : l0_5.length ≤ c0_5)
 (h : impl_Binary_unitRow.f a0_0 a0_1 l0_2 l0_3 l0_4 l0_5 a1 = some r) :
 Calls Tryz.prog 57 #[.agg #[.int .i64 a0_0, .int .i64 a0_1, .slice A0_2 l0_2.length c0_2, .slice A0_3 l0_3.length c0_3, .slice A0_4 l0_4.length c0_4, .slice A0_5 l0_5.length c0_5], .int .i64 a1] w fun e w' => ∃ v0_ : Value, e = .returned (v0_) ∧ Kd.R (Kd.int .i64) 3 w' w.heap.size (fun _ => True) v0_ r ∧ Below w.heap.size w w' := by
 have hu := Tryz.underlying32; unfold impl_Binary_unitRow.f at h; by_cases hcd : (goodB a0_0 a0_1 l0_2 l0_3 l0_4 l0_5 = true ∧ l0_2.length ≤ 1048576 ∧ l0_3.length ≤ 1048576) ∧ -a0_1 ≤ a1 ∧ a1 < a0_0
 · rw [if_pos hcd] at h; obtain rfl := Option.some.inj h; obtain ⟨⟨hG, hL2, hL3⟩, hx0, hx1⟩ := hcd; have ok := goodB_ok hG; have hn := ok.n; have ht := ok.t; obtain ⟨n, rfl⟩ : ∃ n : Nat, a0_0 = (n : Int) := ⟨a0_0.toNat, zz1l⟩
   rw [Int.toNat_natCast]; obtain ⟨K, hK⟩ := (unitPairs_ev hG hL2 hL3).rounds; rw [Int.toNat_natCast] at hK; have PI : PairsIn n (pairsU n l0_4 l0_3 l0_2) := fun p hp => by obtain ⟨e1, e2, e3, e4⟩ := pairsU_ok ok hp; exact ⟨e1, e2, e4⟩
   have PL := pairsU_len n l0_4 l0_3 l0_2; obtain ⟨ps, hps⟩ : ∃ ps, ps = pairsU n l0_4 l0_3 l0_2 := ⟨_, rfl⟩
   rw [← hps] at hK PI PL ⊢; have CU := fun (W : World) (hW : Below w.heap.size w W) => impl_Binary_unitPairs.calls K n a0_1 A0_2 c0_2 l0_2 A0_3 c0_3 l0_3 A0_4 c0_4 l0_4 A0_5 c0_5 l0_5 ps W (zS hr0_2 hW) hc0_2 (zS hr0_3 hW) hc0_3 (zS hr0_4 hW) hc0_4 (zS hr0_5 hW) hc0_5 hK
   have PIN := zA PI; have hx40 : a1 < 40 := by omega
   have hxm4 : -4 ≤ a1 := by omega
   have XN := zA (show a1 < (n : Int) from hx1); have hn40 : n ≤ 40 := by omega
   have hpl : ps.length ≤ 3145728 := by omega
   have HB := zA (Below.refl w.heap.size w); clear h hG hL2 hL3 hx0 hx1 ok hn ht hK PI PL hps hr0_2 hc0_2 hr0_3 hc0_3 hr0_4 hc0_4 hr0_5 hc0_5; go_enter Tryz.func57, Tryz.ntmps57; go_wp2_with (first | ((with_reducible refine gate_dst (N := 2) rfl ?_); refine box_event ?hg (N := 2) ?hd (cs := #[.int .i64 (n : Int), .int .i64 a0_1, .slice A0_2 l0_2.length c0_2, .slice A0_3 l0_3.length c0_3, .slice A0_4 l0_4.length c0_4, .slice A0_5 l0_5.length c0_5]) (t := 32) ?hr ?_; (case hd => rfl); (case hg => rfl); (case hr => first | (go_simp; done) | (go_simp; rfl)); intro gb hg w1 hbox hb; have n0_ := zA (zG (zz0u HB) hb); have BB := zA hbox; clear HB hb hbox hg; have HB := n0_; clear n0_; have hb0 : w1.cell? ⟨gb, 0, none⟩ = some (.int .i64 (n : Int)) := (zK BB.out 0).trans rfl; have hb1 : w1.cell? ⟨gb, 1, none⟩ = some (.int .i64 a0_1) := (zK BB.out 1).trans rfl; have hb2 : w1.cell? ⟨gb, 2, none⟩ = some (.slice A0_2 l0_2.length c0_2) := (zK BB.out 2).trans rfl; have hb3 : w1.cell? ⟨gb, 3, none⟩ = some (.slice A0_3 l0_3.length c0_3) := (zK BB.out 3).trans rfl; have hb4 : w1.cell? ⟨gb, 4, none⟩ = some (.slice A0_4 l0_4.length c0_4) := (zK BB.out 4).trans rfl; have hb5 : w1.cell? ⟨gb, 5, none⟩ = some (.slice A0_5 l0_5.length c0_5) := (zK BB.out 5).trans rfl) | (go_at_call 74; (with_reducible refine (CU _ (zz0u HB)).mono ?_); rintro e w2 ⟨v2, rfl, hs2, hb⟩; clear CU; have n0_ := zA (zG (zz0u HB) hb); obtain ⟨A5, c5, ev⟩ := Kd.R_slice (Kd.S_R hs2); subst ev; have HP := zA (Kd.S_reads' hs2).2.2; have HC := zA (Kd.S_reads' hs2).2.1; clear HB hb hs2 BB hb0 hb1 hb2 hb3 hb4 hb5; have HB := n0_; clear n0_; have H2 := zA (Below.refl w2.heap.size w2)) | ((with_reducible refine gate_dst (N := 14) rfl ?_); refine Kd.R_lit (Kd.int .i64) _ 3 ?hg (N := 14) ?hd (xs := ([] : List Int)) (inner := []) (ok := fun _ => True) (okp := fun _ => True) ?hr ?hp (fun _ hk => hk) trivial H2.out (zF H2.out) zz1m ?_; (case hd => rfl); (case hg => rfl); (case hr => first | (go_simp; done) | (go_simp; rfl)); (case hp => exact (Reps.none _ _)); intro u6 w3 ho hb hg_ hnew_; have HO := zA ho; have n0_ := zA hb; have LO := zA (Kd.R_lt ho); clear H2 ho hb hg_ hnew_; have H2 := n0_; clear n0_; have tok1 : True := trivial) | (have _t := tok1; (with_reducible refine made_event rfl 84 3 rfl ?_); intro bm hbm w4 hown hgr; have GE := zA (show w2.heap.size ≤ bm by rw [hbm]; exact zF H2.out); have n0_ := zA (H2.out.grown hgr (zF H2.out) (fun k hk => by cases hk)); have n1_ := zA (Kd.R_below HO.out (below_of_grown hgr)); have OW := zA hown; clear tok1 H2 HO hown hgr hbm; have H2 := n0_; have HO := n1_; clear n0_ n1_; have tok2 : True := trivial) | (have _t := tok2; (with_reducible refine insert_event rfl _ _ _ 84 rfl 3 4 (Go.Maps.int_keyed Tryz.underlying3) Tryz.underlying84 bm 0 (.map []) rfl OW.out ?hn (.int .i64 a1) (.bool true) (.int .i64 a1) rfl rfl ?hk ?_); (case hn => decide); (case hk => exact Go.Maps.keyOf_int_mk Tryz.underlying3 (int_wf zz1l zz1l)); intro w5 hown hgr; have n0_ := zA (H2.out.grown hgr (zF H2.out) (fun k hk => by injection hk with hk; rw [← hk]; exact GE.out)); have n1_ := zA (show Kd.R (Kd.int .i64) 3 w5 w2.heap.size (fun _ => True) u6 [] from Kd.R_mono (Kd.R_grown (Kd.R_tight zz1n HO.out) hgr (fun k hk e => ownsMap_ne (base := 0) (ok := fun _ => True) (xs := []) OW.out (Kd.R_typed HO.out) (e.symm.trans hk))) (fun _ _ => trivial)); have n2_ := zA hown; clear tok2 H2 HO OW hown hgr; have H2 := n0_; have HO := n1_; have OW := n2_; clear n0_ n1_ n2_; have tok3 : True := trivial) | (have _t := tok3; (with_reducible refine gate_dst (N := 19) rfl ?_); refine Kd.R_lit (Kd.int .i64) _ 3 ?hg (N := 19) ?hd (xs := ([a1] : List Int)) (inner := [.int .i64 a1]) (ok := fun k => True ∧ some k ≠ u6.ownBlock) (okp := fun k => True ∧ some k ≠ u6.ownBlock) ?hr ?hp (fun _ hk => hk) ⟨trivial, fun e => by have := Kd.R_lt HO.out _ e.symm; omega⟩ H2.out (zF H2.out) zz1m ?_; (case hd => rfl); (case hg => rfl); (case hr => first | (go_simp; done) | (go_simp; rfl)); (case hp => exact Reps.one (show Kd.M (Kd.int .i64) _ _ _ (a1 : Int) [.int .i64 a1] from rfl) (Reps.none _ _)); intro u8 w6 ho hb hg_ hnew_; clear tok3; have UR := zA (show UrS w2 w6 bm ((DataW.map []).put (.int .i64 a1) (.held (.bool true))) [a1] u6 u8 [] [a1] from ⟨hb, Kd.R_mono (Kd.R_below (Kd.R_bound HO.out) (below_of_grown hg_)) (fun k hk => ⟨trivial, fun e => by obtain ⟨b_, h1_, h2_⟩ := hnew_; rw [h1_] at e; injection e with e; have := hk.2.2.1; omega⟩), Kd.Q_of_R ho, OW.out.kept hg_ zz1m, GE.out, mapS_put mapS_nil a1⟩); clear H2 HO OW ho hb hg_ hnew_)); go_loopg [6, 8] (n + 2) (fun gg s6 s8 wr => ∃ (i : Nat) (S : List Int) (D : DataW Value) (td : List Int), Aside0 (n + 2 - i ≤ gg) ∧ Aside0 (td = S.drop i) ∧ Aside0 (BfsI ps n a1 S i) ∧ Aside0 (UrS w2 wr bm D S s6 s8 ((S.take i).filter fun z => decide (0 ≤ z)) td))
   case atStart => exact ⟨0, [a1], _, [a1], ⟨zz1l⟩, ⟨rfl⟩, ⟨BfsI.start⟩, UR⟩
   case round =>
    clear UR; obtain ⟨i, S, D, td, GG, TD, BI, UR⟩ := hrel; obtain ⟨A8, c8, ev, hc8⟩ := Kd.Q_slice UR.out.hq; subst ev; have hSl := zA (BI.out.len PIN.out); have htl : td.length = S.length - i := by rw [TD.out, List.length_drop]
    by_cases hlt : i < S.length
    · have h0 : 0 < td.length := by omega
      have hd : decide (0 < td.length) = true := decide_eq_true h0; have hdi : decide ((0 : Int) < (td.length : Int)) = true := decide_eq_true zz1l; have hlp : (0 < td.length) = True := eq_true h0; obtain ⟨ay, e, hy0⟩ := Kd.at_int (Kd.Q_reads' UR.out.hq).2.2 0 zz1l zz1l; subst e; rw [show ((0 : Int)).toNat = 0 from rfl, Addr.add_zero'] at hy0; obtain ⟨i0, hi0, _, hsz0, _⟩ := info_parts info3; have hcut0 := cut_from (P := Tryz.prog) 23 3 .i64 Tryz.underlying23 hi0 1 hsz0 (some ay) td.length c8 1 zz1l zz1l; have HQ1 := zA (Kd.Q_drop (k := 1) UR.out.hq zz1l); obtain ⟨A9, hA9⟩ : ∃ A9 : Option Addr, A9 = (if c8 = 1 then some ay else (some ay).map (·.add (1 * 1))) := ⟨_, rfl⟩
      have hcut : ∀ W : World, (Instr.slice 23 (.slice (some ay) td.length c8) (some (.int .i64 1)) none none).run Tryz.prog W = .ok (.slice A9 (td.length - 1) (c8 - 1)) W := fun W => by rw [hcut0 W, hA9]; rfl
      have HQ2 := zA (show Kd.Q (Kd.int .i64) 3 wr w2.heap.size (fun k => True ∧ some k ≠ u6.ownBlock) (.slice A9 (td.length - 1) (c8 - 1)) (td.drop 1) by rw [hA9]; exact HQ1.out); have OB := zA (show (Value.slice A9 (td.length - 1) (c8 - 1)).ownBlock = (Value.slice (some ay) td.length c8).ownBlock ∨ (Value.slice A9 (td.length - 1) (c8 - 1)).ownBlock = none from by
       rw [hA9]; by_cases hc_ : c8 = 1
       · rw [if_pos hc_]; exact .inl rfl
       · rw [if_neg hc_]; left; simp [Value.ownBlock, Addr.add])
      have BJ := zA (BI.out.take hlt); have YS := zA (show rd td 0 = rd S i by rw [TD.out]; unfold rd; rw [Int.toNat_natCast, List.getD_eq_getElem?_getD, List.getElem?_drop, List.getD_eq_getElem?_getD]; rfl); have TK := zA (show (S.take (i + 1)).filter (fun z => decide (0 ≤ z)) = (S.take i).filter (fun z => decide (0 ≤ z)) ++ if 0 ≤ rd S i then [rd S i] else [] by rw [take_getD S i 0 hlt, List.filter_append]; congr 1; have e_ : S.getD i 0 = rd S i := rfl; rw [e_]; exact filter_one (rd S i)); have TD1 := zA (show td.drop 1 = S.drop (i + 1) by rw [TD.out, List.drop_drop]); have UR2 := zA (UR.out.cut OB.out HQ2.out); have LI := zA hlt; have YB := zA (show rd S i < 40 ∧ -4 ≤ rd S i by rcases upR_lt PIN.out (BI.out.up _ (rd_in hlt)) with e | e <;> omega); clear hcut0 HQ1 hA9 hi0 hsz0 HQ2 OB hlt BI; obtain ⟨y, hy⟩ : ∃ y, y = rd S i := ⟨_, rfl⟩
      rw [← hy] at BJ YS TK YB; rw [YS.out] at hy0; clear hy YS; have hy40 : y < 40 := YB.out.1; have hym4 : -4 ≤ y := YB.out.2; have UL := zA (show ((S.take i).filter fun z => decide (0 ≤ z)).length ≤ 41 from Nat.le_trans (List.length_filter_le _ _) (by rw [List.length_take]; have := hSl.out; omega)); by_cases hp : 0 ≤ y
      · have hpd : decide (0 ≤ y) = true := decide_eq_true hp; rw [if_pos hp] at TK; clear UR TD htl h0 YB; go_wp2_with (first | ((with_reducible refine gate_builtin (b := .append) (xs := #[.tmp 30, .tmp 32]) rfl ?_); at_builtin; refine Kd.R_append (Kd.int .i64) (w0 := w2) w2.heap.size rfl (.tmp 30) (.tmp 32) 23 3 (.int .i64 0) 8 rfl Tryz.underlying23 info3 rfl zz1k zz1l u6 ((S.take i).filter fun z => decide (0 ≤ z)) y [.int .i64 y] (fun k => True ∧ some k ≠ (Value.slice A9 (td.length - 1) (c8 - 1)).ownBlock) (fun _ => False) rfl rfl ?aP (fun _ hk => hk.elim) UR2.out.newo UR2.out.ho UR2.out.below (zF UR2.out.below) (zz1b UL) ?_; (case aP => exact rfl); intro v9 w9 ho hb hg hat; have n0_ := zA (UR2.out.addo ho hb hg hat); clear UR2 ho hb hg hat; have UR2 := n0_; clear n0_)); clear hcut hy0 hd hdi hlp; obtain ⟨out, hout⟩ : ∃ out, out = ((S.take i).filter fun z => decide (0 ≤ z)) ++ [y] := ⟨_, rfl⟩
        have TKO := zA (show (S.take (i + 1)).filter (fun z => decide (0 ≤ z)) = out by rw [hout, TK.out]); rw [← hout] at UR2; clear hout TK UL; go_loopg [8, 36] ps.length (fun gg s8 s36 wq => ∃ (kk : Nat) (S2 : List Int) (D2 : DataW Value) (td2 : List Int), kk ≤ ps.length ∧ ps.length - kk ≤ gg ∧ s36 = .int .i64 kk ∧ Aside0 (S2.take (i + 1) = S.take (i + 1)) ∧ Aside0 (td2 = S2.drop (i + 1)) ∧ Aside0 (BfsJ ps n a1 y S2 i kk) ∧ Aside0 (UrS w2 wq bm D2 S2 v9 s8 out td2))
        case atStart => exact ⟨0, S, D, td.drop 1, Nat.zero_le _, zz1l, rfl, ⟨rfl⟩, TD1, BJ, UR2⟩
        case round =>
         clear UR2 BJ TD1; obtain ⟨kk, S2, D2, td2, hkk, hg, rfl, ST, TD2, BJ, UR⟩ := hrel; by_cases hlt : kk < ps.length
         · have hd : decide (kk < ps.length) = true := decide_eq_true hlt; have hdi : decide ((kk : Int) < (ps.length : Int)) = true := decide_eq_true zz1l; obtain ⟨ad, A1, c1, e, hx0, hl1, hi1⟩ := at_L1 HP.out (kk : Int) zz1l zz1l; subst e; have hx1 : wr.cell? (ad.add kk) = some (.slice A1 (rd_L1 ps kk).length c1) := (UR.out.below.cell (World.block_lt_of_cell? w2 _ zz1d)).trans zz1d; have hmem : rd_L1 ps kk ∈ ps := by unfold rd_L1; rw [Int.toNat_natCast, List.getD_eq_getElem?_getD, List.getElem?_eq_getElem hlt]; exact List.getElem_mem hlt
           obtain ⟨y2, yb0, yb1⟩ := PIN.out _ hmem; have SKP := zA fun h => BJ.out.skip (kk := kk) h
           have PUT := zA fun h1 h2 => BJ.out.put hlt h1 h2
           have GD : ps.getD kk [] = rd_L1 ps kk := rfl; rw [GD] at SKP PUT; have HI := zA (zS hi1 UR.out.below); have L := zA hlt; have BL := zA BJ.out.le; have SL2 := zA (show S2.length ≤ n + 1 from (BfsI.len ⟨BJ.out.nd, BJ.out.st, BJ.out.up, Nat.le_of_lt BJ.out.le, BJ.out.cl⟩ PIN.out)); clear hx0 hi1 hl1 hmem GD BJ; generalize rd_L1 ps kk = z at hx1 y2 yb0 yb1 SKP PUT HI; obtain ⟨az, e, hz0⟩ := Kd.at_int HI.out 0 zz1l zz1l; subst e; obtain ⟨az2, e, hz1⟩ := Kd.at_int HI.out 1 zz1l zz1l; injection e with e; subst e; rw [show ((0 : Int)).toNat = 0 from rfl, Addr.add_zero'] at hz0; (try simp only [show (1 : Int).toNat = 1 from rfl, Nat.reduceMul, Nat.reduceEqDiff, Go.Addr.add, ↓reduceIte] at hz1); have hzl1 : (1 < z.length) = True := eq_true zz1l; have hzl0 : (0 < z.length) = True := eq_true zz1l; have hlook := seen_look (z := rd z 0) UR.out.ow UR.out.ms zz1l zz1l; obtain ⟨z0, hz0e⟩ : ∃ z0 : Nat, rd z 0 = (z0 : Int) := ⟨(rd z 0).toNat, zz1l⟩
           have Z0 := zA hz0e; rw [hz0e] at hz0 hlook yb0; clear hz0e; by_cases h1 : rd z 1 = y
           · have e1 : (rd z 1 == y) = true := by rw [h1]; simp
             have e1d : decide (rd z 1 = y) = true := decide_eq_true h1; by_cases h2 : (z0 : Int) ∈ S2
             · rw [decide_eq_true h2] at hlook; have BJ := zA (SKP.out (.inr (by rw [Z0.out]; exact h2))); clear SKP PUT h2 h1 hzl0; go_wp2
               go_roundg (ps.length - (kk + 1))
               case measure => have := L.out; omega
               case rel => exact ⟨kk + 1, S2, D2, td2, zz1b L, zz1l, zz1j, ST, TD2, BJ, UR⟩
             · rw [decide_eq_false h2] at hlook; have BJ := zA (PUT.out h1 (by rw [Z0.out]; exact h2)); rw [Z0.out] at BJ; have ST2 := zA (show (S2 ++ [(z0 : Int)]).take (i + 1) = S.take (i + 1) by rw [List.take_append_of_le_length (zz1b BL)]; exact ST.out); have TD3 := zA (show td2 ++ [(z0 : Int)] = (S2 ++ [(z0 : Int)]).drop (i + 1) by rw [List.drop_append_of_le_length (zz1b BL), TD2.out]); have TL := zA (show td2.length ≤ 41 by rw [TD2.out, List.length_drop]; have := SL2.out; omega); clear SKP PUT h2 h1; have OLD := zA (show az.block ≠ bm from fun e => by have h_ := World.block_lt_of_cell? wr _ hz0; exact absurd (UR.out.ow) (fun ow => by obtain ⟨es, clock, hb_, _⟩ := ow; rw [← e] at hb_; simp [World.cell?, hb_] at hz0)); go_wp2_with (first | (at_mapUpdate;  refine wpList_mapUpdate_own _ rfl _ _ _ 84 rfl 3 4 (Go.Maps.int_keyed Tryz.underlying3) Tryz.underlying84 asIs bm S2.length D2 rfl UR.out.ow ?hn (.int .i64 (z0 : Int)) (.bool true) (.int .i64 (z0 : Int)) rfl rfl ?hk (.held (.bool true)) [] rfl ?_; (case hn => have h_ := SL2.out; exact Nat.lt_of_le_of_lt h_ (Nat.lt_of_le_of_lt (Nat.succ_le_succ hn40) zz1k)); (case hk => exact Go.Maps.keyOf_int_mk Tryz.underlying3 (int_wf zz1l zz1l)); intro w7 hown hgr; have n0_ := zA (UR.out.seen hown hgr); have hz9 : w7.cell? az = some (.int .i64 (z0 : Int)) := hgr.cell hz0 (fun e => OLD.out (by injection e)); clear hz0 hz1; clear UR hown hgr hlook; have UR := n0_; clear n0_) | ((with_reducible refine gate_builtin (b := .append) (xs := #[.tmp 57, .tmp 61]) rfl ?_); at_builtin; refine Kd.Q_append (Kd.int .i64) (w0 := w2) w2.heap.size rfl (.tmp 57) (.tmp 61) 23 3 (.int .i64 0) 8 rfl Tryz.underlying23 info3 rfl zz1k zz1l u8 td2 (z0 : Int) [.int .i64 (z0 : Int)] (fun k => True ∧ some k ≠ (v9 : Value).ownBlock) (fun _ => False) rfl rfl ?aP (fun _ hk => hk.elim) UR.out.newq UR.out.hq UR.out.below (zF UR.out.below) (zz1b TL) ?_; (case aP => exact rfl); intro v9 w8 ho hb hg hat; have n0_ := zA (UR.out.addq ho hb hg hat); clear UR ho hb hg hat hz9; have UR := n0_; clear n0_))
               go_roundg (ps.length - (kk + 1))
               case measure => have := L.out; omega
               case rel => exact ⟨kk + 1, S2 ++ [(z0 : Int)], _, td2 ++ [(z0 : Int)], zz1b L, zz1l, zz1j, ST2, TD3, BJ, UR⟩
           · have e1 : (rd z 1 == y) = false := by simpa using h1
             have e1d : decide (rd z 1 = y) = false := decide_eq_false h1; have BJ := zA (SKP.out (.inl h1)); clear SKP PUT h1 hlook hz0; go_wp2
             go_roundg (ps.length - (kk + 1))
             case measure => have := L.out; omega
             case rel => exact ⟨kk + 1, S2, D2, td2, zz1b L, zz1l, zz1j, ST, TD2, BJ, UR⟩
         · have hd : decide (kk < ps.length) = false := decide_eq_false hlt; have hdi : decide ((kk : Int) < (ps.length : Int)) = false := decide_eq_false zz1l; have BI := zA (BJ.out.done zz1l); have SLX := zA (BJ.out.le); have SLY := zA (BI.out.len PIN.out); have UR3 := zA (show UrS w2 wr bm D2 S2 v9 u8 ((S2.take (i + 1)).filter fun z => decide (0 ≤ z)) td2 by rw [ST.out, TKO.out]; exact UR.out); clear hlt BJ UR; go_wp2
           go_roundg (n + 1 - i)
           case measure => have h1 := GG.out; have h2 := SLX.out; have h3 := SLY.out; omega
           case rel => exact ⟨i + 1, S2, D2, td2, ⟨zz1l⟩, TD2, BI, UR3⟩
      · have hpd : decide (0 ≤ y) = false := decide_eq_false hp; rw [if_neg hp] at TK; clear UR TD htl h0 YB; go_wp2; clear hcut hy0 hd hdi hlp; obtain ⟨out, hout⟩ : ∃ out, out = (S.take i).filter fun z => decide (0 ≤ z) := ⟨_, rfl⟩
        have TKO := zA (show (S.take (i + 1)).filter (fun z => decide (0 ≤ z)) = out by rw [hout, TK.out, List.append_nil]); rw [← hout] at UR2; clear hout TK UL; go_loopg [8, 36] ps.length (fun gg s8 s36 wq => ∃ (kk : Nat) (S2 : List Int) (D2 : DataW Value) (td2 : List Int), kk ≤ ps.length ∧ ps.length - kk ≤ gg ∧ s36 = .int .i64 kk ∧ Aside0 (S2.take (i + 1) = S.take (i + 1)) ∧ Aside0 (td2 = S2.drop (i + 1)) ∧ Aside0 (BfsJ ps n a1 y S2 i kk) ∧ Aside0 (UrS w2 wq bm D2 S2 u6 s8 out td2))
        case atStart => exact ⟨0, S, D, td.drop 1, Nat.zero_le _, zz1l, rfl, ⟨rfl⟩, TD1, BJ, UR2⟩
        case round =>
         clear UR2 BJ TD1; obtain ⟨kk, S2, D2, td2, hkk, hg, rfl, ST, TD2, BJ, UR⟩ := hrel; by_cases hlt : kk < ps.length
         · have hd : decide (kk < ps.length) = true := decide_eq_true hlt; have hdi : decide ((kk : Int) < (ps.length : Int)) = true := decide_eq_true zz1l; obtain ⟨ad, A1, c1, e, hx0, hl1, hi1⟩ := at_L1 HP.out (kk : Int) zz1l zz1l; subst e; have hx1 : wr.cell? (ad.add kk) = some (.slice A1 (rd_L1 ps kk).length c1) := (UR.out.below.cell (World.block_lt_of_cell? w2 _ zz1d)).trans zz1d; have hmem : rd_L1 ps kk ∈ ps := by unfold rd_L1; rw [Int.toNat_natCast, List.getD_eq_getElem?_getD, List.getElem?_eq_getElem hlt]; exact List.getElem_mem hlt
           obtain ⟨y2, yb0, yb1⟩ := PIN.out _ hmem; have SKP := zA fun h => BJ.out.skip (kk := kk) h
           have PUT := zA fun h1 h2 => BJ.out.put hlt h1 h2
           have GD : ps.getD kk [] = rd_L1 ps kk := rfl; rw [GD] at SKP PUT; have HI := zA (zS hi1 UR.out.below); have L := zA hlt; have BL := zA BJ.out.le; have SL2 := zA (show S2.length ≤ n + 1 from (BfsI.len ⟨BJ.out.nd, BJ.out.st, BJ.out.up, Nat.le_of_lt BJ.out.le, BJ.out.cl⟩ PIN.out)); clear hx0 hi1 hl1 hmem GD BJ; generalize rd_L1 ps kk = z at hx1 y2 yb0 yb1 SKP PUT HI; obtain ⟨az, e, hz0⟩ := Kd.at_int HI.out 0 zz1l zz1l; subst e; obtain ⟨az2, e, hz1⟩ := Kd.at_int HI.out 1 zz1l zz1l; injection e with e; subst e; rw [show ((0 : Int)).toNat = 0 from rfl, Addr.add_zero'] at hz0; (try simp only [show (1 : Int).toNat = 1 from rfl, Nat.reduceMul, Nat.reduceEqDiff, Go.Addr.add, ↓reduceIte] at hz1); have hzl1 : (1 < z.length) = True := eq_true zz1l; have hzl0 : (0 < z.length) = True := eq_true zz1l; have hlook := seen_look (z := rd z 0) UR.out.ow UR.out.ms zz1l zz1l; obtain ⟨z0, hz0e⟩ : ∃ z0 : Nat, rd z 0 = (z0 : Int) := ⟨(rd z 0).toNat, zz1l⟩
           have Z0 := zA hz0e; rw [hz0e] at hz0 hlook yb0; clear hz0e; by_cases h1 : rd z 1 = y
           · have e1 : (rd z 1 == y) = true := by rw [h1]; simp
             have e1d : decide (rd z 1 = y) = true := decide_eq_true h1; by_cases h2 : (z0 : Int) ∈ S2
             · rw [decide_eq_true h2] at hlook; have BJ := zA (SKP.out (.inr (by rw [Z0.out]; exact h2))); clear SKP PUT h2 h1 hzl0; go_wp2
               go_roundg (ps.length - (kk + 1))
               case measure => have := L.out; omega
               case rel => exact ⟨kk + 1, S2, D2, td2, zz1b L, zz1l, zz1j, ST, TD2, BJ, UR⟩
             · rw [decide_eq_false h2] at hlook; have BJ := zA (PUT.out h1 (by rw [Z0.out]; exact h2)); rw [Z0.out] at BJ; have ST2 := zA (show (S2 ++ [(z0 : Int)]).take (i + 1) = S.take (i + 1) by rw [List.take_append_of_le_length (zz1b BL)]; exact ST.out); have TD3 := zA (show td2 ++ [(z0 : Int)] = (S2 ++ [(z0 : Int)]).drop (i + 1) by rw [List.drop_append_of_le_length (zz1b BL), TD2.out]); have TL := zA (show td2.length ≤ 41 by rw [TD2.out, List.length_drop]; have := SL2.out; omega); clear SKP PUT h2 h1; have OLD := zA (show az.block ≠ bm from fun e => by have h_ := World.block_lt_of_cell? wr _ hz0; exact absurd (UR.out.ow) (fun ow => by obtain ⟨es, clock, hb_, _⟩ := ow; rw [← e] at hb_; simp [World.cell?, hb_] at hz0)); go_wp2_with (first | (at_mapUpdate;  refine wpList_mapUpdate_own _ rfl _ _ _ 84 rfl 3 4 (Go.Maps.int_keyed Tryz.underlying3) Tryz.underlying84 asIs bm S2.length D2 rfl UR.out.ow ?hn (.int .i64 (z0 : Int)) (.bool true) (.int .i64 (z0 : Int)) rfl rfl ?hk (.held (.bool true)) [] rfl ?_; (case hn => have h_ := SL2.out; exact Nat.lt_of_le_of_lt h_ (Nat.lt_of_le_of_lt (Nat.succ_le_succ hn40) zz1k)); (case hk => exact Go.Maps.keyOf_int_mk Tryz.underlying3 (int_wf zz1l zz1l)); intro w7 hown hgr; have n0_ := zA (UR.out.seen hown hgr); have hz9 : w7.cell? az = some (.int .i64 (z0 : Int)) := hgr.cell hz0 (fun e => OLD.out (by injection e)); clear hz0 hz1; clear UR hown hgr hlook; have UR := n0_; clear n0_) | ((with_reducible refine gate_builtin (b := .append) (xs := #[.tmp 57, .tmp 61]) rfl ?_); at_builtin; refine Kd.Q_append (Kd.int .i64) (w0 := w2) w2.heap.size rfl (.tmp 57) (.tmp 61) 23 3 (.int .i64 0) 8 rfl Tryz.underlying23 info3 rfl zz1k zz1l u8 td2 (z0 : Int) [.int .i64 (z0 : Int)] (fun k => True ∧ some k ≠ (u6 : Value).ownBlock) (fun _ => False) rfl rfl ?aP (fun _ hk => hk.elim) UR.out.newq UR.out.hq UR.out.below (zF UR.out.below) (zz1b TL) ?_; (case aP => exact rfl); intro v9 w8 ho hb hg hat; have n0_ := zA (UR.out.addq ho hb hg hat); clear UR ho hb hg hat hz9; have UR := n0_; clear n0_))
               go_roundg (ps.length - (kk + 1))
               case measure => have := L.out; omega
               case rel => exact ⟨kk + 1, S2 ++ [(z0 : Int)], _, td2 ++ [(z0 : Int)], zz1b L, zz1l, zz1j, ST2, TD3, BJ, UR⟩
           · have e1 : (rd z 1 == y) = false := by simpa using h1
             have e1d : decide (rd z 1 = y) = false := decide_eq_false h1; have BJ := zA (SKP.out (.inl h1)); clear SKP PUT h1 hlook hz0; go_wp2
             go_roundg (ps.length - (kk + 1))
             case measure => have := L.out; omega
             case rel => exact ⟨kk + 1, S2, D2, td2, zz1b L, zz1l, zz1j, ST, TD2, BJ, UR⟩
         · have hd : decide (kk < ps.length) = false := decide_eq_false hlt; have hdi : decide ((kk : Int) < (ps.length : Int)) = false := decide_eq_false zz1l; have BI := zA (BJ.out.done zz1l); have SLX := zA (BJ.out.le); have SLY := zA (BI.out.len PIN.out); have UR3 := zA (show UrS w2 wr bm D2 S2 u6 u8 ((S2.take (i + 1)).filter fun z => decide (0 ≤ z)) td2 by rw [ST.out, TKO.out]; exact UR.out); clear hlt BJ UR; go_wp2
           go_roundg (n + 1 - i)
           case measure => have h1 := GG.out; have h2 := SLX.out; have h3 := SLY.out; omega
           case rel => exact ⟨i + 1, S2, D2, td2, ⟨zz1l⟩, TD2, BI, UR3⟩
    · have h0 : td.length = 0 := by omega
      have hd : decide (0 < td.length) = false := decide_eq_false zz1l; have hdi : decide ((0 : Int) < (td.length : Int)) = false := decide_eq_false zz1l; have FIN := zA (BI.out.fin zz1l PIN.out XN.out); have OL := zA (show ((S.take i).filter fun z => decide (0 ≤ z)).length < 4611686018427387904 from Nat.lt_of_le_of_lt (Nat.le_trans (List.length_filter_le _ _) (List.length_take_le _ _)) (by have h1 := BI.out.le; have h2 := hSl.out; omega)); have CS := slices_Sort_int_int.calls (fun k => True ∧ some k ≠ (Value.slice A8 td.length c8).ownBlock) u6 ((S.take i).filter fun z => decide (0 ≤ z)) (rowU n ps a1) w2 wr UR.out.below UR.out.ho (by unfold slices_Sort_int_int.f; rw [if_pos OL.out, FIN.out]); clear hlt h0 htl FIN UR; go_wp2_with (go_at_call 75; (with_reducible refine CS.mono ?_); rintro e w9 ⟨rfl, ho, hb, hk⟩; clear CS; have HO9 := zA ho; have HB9 := zA hb; clear ho hb hk); go_ret; exact ⟨_, rfl, Kd.R_mono (Kd.R_lower HO9.out (zF HB.out)) (fun _ _ => trivial), zG HB.out HB9.out⟩
 · rw [if_neg hcd] at h; cases h
end Go.Proofs.YtkocahlifffgjaaGreat.P
namespace Go.Proofs.YtkocahlifffgjaaGreat.P
open Go.RowKit Go.Proofs.YtkocahlifffgjaaGreatW.PrintWords Go.Proofs.YtkocahlifffgjaaGreatW.PrintLast Go.Proofs.YtkocahlifffgjaaGreatW.PrintMore
attribute [local go_sem] max2_int min2_int max_two min_two max_three min_three max_four min_four
set_option linter.unusedVariables false
set_option linter.unusedSimpArgs false
def impl_union.f (l0 : List Int) (l1 : List Int) : Option (List Int) := (some (([] : List Int) : List Int)).bind fun dx => (if dx.length + l0.length < 17592186044416 then ((some (dx ++ l0 : List Int)).bind fun gb => (if gb.length + l1.length < 17592186044416 then ((slices_Sort_int_int.f (gb ++ l1)).bind fun cz => ((slices_Compact_int_int.f cz).bind fun fc => (some fc))) else (none))) else (none))
set_option maxHeartbeats 8000000 in
set_option maxRecDepth 100000 in
theorem impl_union.calls (A0 : Option Addr) (c0 : Nat) (l0 : List Int) (A1 : Option Addr) (c1 : Nat) (l1 : List Int) (r : List Int) (w : World) (dA : Kd.C (Kd.int .i64) w A0 l0.length l0) (dB : l0.length ≤ c0) (eJ : Kd.C (Kd.int .i64) w A1 l1.length l1) (eK : l1.length ≤ c1) (h : impl_union.f l0 l1 = some r) :
 Calls Tryz.prog 77 #[.slice A0 l0.length c0, .slice A1 l1.length c1] w fun e w' => ∃ eV : Value, e = .returned (eV) ∧ Kd.R (Kd.int .i64) 3 w' w.heap.size (fun _ => True) eV r ∧ Below w.heap.size w w' := by
 have dm := zA dA; have im := zA dB; clear dA dB; have eT := zA eJ; have g5 := zA eK; clear eJ eK; have HB := zA (Below.refl w.heap.size w); have H : ((some (([] : List Int) : List Int)).bind fun dx => (if dx.length + l0.length < 17592186044416 then ((some (dx ++ l0 : List Int)).bind fun gb => (if gb.length + l1.length < 17592186044416 then ((slices_Sort_int_int.f (gb ++ l1)).bind fun cz => ((slices_Compact_int_int.f cz).bind fun fc => (some fc))) else (none))) else (none))) = some r := h; clear h; obtain ⟨dx, e_y⟩ : ∃ y_ : List Int, y_ = (([] : List Int)) := ⟨_, rfl⟩
 replace H : (if dx.length + l0.length < 17592186044416 then ((some (dx ++ l0 : List Int)).bind fun gb => (if gb.length + l1.length < 17592186044416 then ((slices_Sort_int_int.f (gb ++ l1)).bind fun cz => ((slices_Compact_int_int.f cz).bind fun fc => (some fc))) else (none))) else (none)) = some r := zz05
 have eU := zA e_y; clear e_y; replace H := zIn H; obtain ⟨c3, H⟩ := H; have LMc3 := zA c3; clear c3; obtain ⟨gb, e_y⟩ : ∃ y_ : List Int, y_ = (dx ++ l0) := ⟨_, rfl⟩
 replace H : (if gb.length + l1.length < 17592186044416 then ((slices_Sort_int_int.f (gb ++ l1)).bind fun cz => ((slices_Compact_int_int.f cz).bind fun fc => (some fc))) else (none)) = some r := zz05
 have mu := zA e_y; clear e_y; replace H := zIn H; obtain ⟨c4, H⟩ := H; have LMc4 := zA c4; clear c4; obtain ⟨j1, e_y⟩ : ∃ y_ : List Int, y_ = (gb ++ l1) := ⟨_, rfl⟩
 replace H : ((slices_Sort_int_int.f j1).bind fun cz => ((slices_Compact_int_int.f cz).bind fun fc => (some fc))) = some r := zz05
 have Ny107 := zA e_y; clear e_y; replace H := Option.bind_eq_some_iff.mp H; obtain ⟨cz, kP, H⟩ := H; have A5 := zA kP; clear kP; replace H := Option.bind_eq_some_iff.mp H; obtain ⟨fc, kO, H⟩ := H; have A6 := zA kO; clear kO; obtain rfl := Option.some.inj H; go_enter Tryz.func77, Tryz.ntmps77; go_wp2_with (first | ((with_reducible refine gate_dst (N := 6) rfl ?_); refine Kd.R_lit (Kd.int .i64) _ 3 ?hg (N := 6) ?hd (xs := ([] : List Int)) (inner := []) (ok := fun _ => True) (okp := fun _ => True) ?hr ?hp (fun _ hk => hk) trivial (Below.refl _ _) (Nat.le_refl _) zz1m ?_; (case hd => rfl); (case hg => rfl); (case hr => first | (go_simp; done) | (go_simp; rfl)); (case hp => exact (Reps.none _ _)); intro js w7 rn hb hg_ hnew_; clear hg_ hnew_; (first | rw [← eU.out] at rn | (simp only [Int.reduceToNat] at rn; rw [← eU.out] at rn)); have fA := zA (Kd.R_lower rn (zF (zz0u HB))); replace HB := zA (zG (zz0u HB) hb); clear hb rn) | ((with_reducible refine gate_builtin (b := .append) (xs := #[.tmp 6, .tmp 7]) rfl ?_); at_builtin; refine Kd.R_append_rows (Kd.int .i64) (w0 := w) w.heap.size rfl (.tmp 6) (.tmp 7) 23 3 (.int .i64 0) 8 rfl Tryz.underlying23 info3 rfl zz1k zz1l js dx l0 _ _ _ (fun _ => True) (fun _ => False) rfl rfl ?aO ?aR (fun _ _ h => h) (fun _ h => h.elim) ?aF ?aB ?aS ?aL ?_; (case aR => exact (zz0x dm HB)); (case aB => exact (zz0u HB)); (case aF => exact (fun _ _ => trivial)); (case aO => exact (zz0y fA)); (case aS => exact (zF (zz0u HB))); (case aL => have := LMc3.out; omega); intro mg w9 ho hb hg hat; rw [← mu.out] at ho; replace HB := zA (hb); have cQ := zA (ho); clear fA; clear ho hb hg hat) | ((with_reducible refine gate_builtin (b := .append) (xs := #[.tmp 8, .tmp 9]) rfl ?_); at_builtin; refine Kd.R_append_rows (Kd.int .i64) (w0 := w) w.heap.size rfl (.tmp 8) (.tmp 9) 23 3 (.int .i64 0) 8 rfl Tryz.underlying23 info3 rfl zz1k zz1l mg gb l1 _ _ _ (fun _ => True) (fun _ => False) rfl rfl ?aO ?aR (fun _ _ h => h) (fun _ h => h.elim) ?aF ?aB ?aS ?aL ?_; (case aR => exact (zz0x eT HB)); (case aB => exact (zz0u HB)); (case aF => exact (fun _ _ => trivial)); (case aO => exact (zz0y cQ)); (case aS => exact (zF (zz0u HB))); (case aL => have := LMc4.out; omega); intro qC sG ho hb hg hat; rw [← Ny107.out] at ho; replace HB := zA (hb); have di := zA (ho); clear cQ; clear ho hb hg hat; obtain ⟨ic, ie, nl⟩ := Kd.R_slice di.out; subst nl) | ((with_reducible refine gate_callee (f := 75) rfl ?_); refine goesL_ (some 12) rfl rfl Tryz.func75 zz1h rfl #[.slice ic j1.length ie] rfl zz0h ?_; (with_reducible refine (slices_Sort_int_int.calls (fun k_ => some k_ = (.slice ic j1.length ie : Value).ownBlock) (.slice ic j1.length ie) j1 cz w _ ?al ?am A5.out).mono ?_); (case al => repeat (first | (with_reducible first | exact HB.out | apply zB | apply zC | apply zD) | exact HB.out)); (case am => exact Kd.R_tight rfl di.out); rintro e kf ⟨rfl, sH, hb, hkp⟩; refine ⟨_, rfl, ?_⟩; replace di := zA (Kd.R_reok rfl sH (fun k_ e_ => di.out.1 k_ e_)); replace HB := zA (hb); (try clear hb); (try clear hkp); (try clear sH)) | ((with_reducible refine gate_callee (f := 89) rfl ?_); refine goesL_ (some 14) rfl rfl Tryz.func89 zz1h rfl #[.slice ic j1.length ie] rfl zz0h ?_; (with_reducible refine (slices_Compact_int_int.calls (fun k_ => some k_ = (.slice ic j1.length ie : Value).ownBlock) (.slice ic j1.length ie) cz fc w _ ?al ?am A6.out).mono ?_); (case al => repeat (first | (with_reducible first | exact HB.out | apply zB | apply zC | apply zD) | exact HB.out)); (case am => exact Kd.R_tight rfl di.out); rintro e nw ⟨v112, rfl, cd, hb, hkp⟩; refine ⟨_, rfl, ?_⟩; have nn := zA (Kd.R_mono (ok' := fun k_ => True) cd (fun k_ hk_ => trivial)); replace HB := zA (hb); clear di; (try clear hb); (try clear hkp); (try clear cd))); go_ret; exact ⟨_, zz0v, zz0y nn, zz0u HB⟩
def impl_Binary_closedSet.l0 : Nat → List Int → List Int → Int → Int → Int → Int → List (List Int) → List (List Int) → List Int → List (List Int) → Option (List Int)
 | 0, _, _, _, _, _, _, _, _, _, _ => none
 | k + 1, x5, x9, l9, en, aV, aN, aJ, aQ, aX, aW => if en < l9 then (if 0 ≤ en then (if en < (x9.length : Int) then ((impl_Binary_unitRow.f aV aN aJ aQ aX aW (rd x9 en)).bind fun cB => ((impl_union.f x5 cB).bind fun eS => (impl_Binary_closedSet.l0 k eS x9 l9 (wrap64 (en + 1)) aV aN aJ aQ aX aW))) else (none)) else (none)) else (some x5)
def impl_Binary_closedSet.f (k : Nat) (af : Int) (aj : Int) (ab : List (List Int)) (ae : List (List Int)) (ai : List Int) (ag : List (List Int)) (l1 : List Int) : Option (List Int) := impl_Binary_closedSet.l0 k (([] : List Int)) l1 (l1.length : Int) 0 af aj ab ae ai ag
set_option maxHeartbeats 8000000 in
set_option maxRecDepth 100000 in
theorem impl_Binary_closedSet.calls (k : Nat) (af : Int) (aj : Int) (az : Option Addr) (aq : Nat) (ab : List (List Int)) (ay : Option Addr) (av : Nat) (ae : List (List Int)) (ar : Option Addr) (au : Nat) (ai : List Int) (aw : Option Addr) (ax : Nat) (ag : List (List Int)) (A1 : Option Addr) (c1 : Nat) (l1 : List Int) (r : List Int) (w : World) (bD : Kd.C (Kd.slice 3 (Kd.int .i64)) w az ab.length ab) (bE : ab.length ≤ aq) (bF : Kd.C (Kd.slice 3 (Kd.int .i64)) w ay ae.length ae) (bG : ae.length ≤ av) (bH : Kd.C (Kd.int .i64) w ar ai.length ai) (bI : ai.length ≤ au) (bJ : Kd.C (Kd.slice 3 (Kd.int .i64)) w aw ag.length ag) (bK : ag.length ≤ ax) (eJ : Kd.C (Kd.int .i64) w A1 l1.length l1) (eK : l1.length ≤ c1) (h : impl_Binary_closedSet.f k af aj ab ae ai ag l1 = some r) :
 Calls Tryz.prog 60 #[.agg #[.int .i64 af, .int .i64 aj, .slice az ab.length aq, .slice ay ae.length av, .slice ar ai.length au, .slice aw ag.length ax], .slice A1 l1.length c1] w fun e w' => ∃ eV : Value, e = .returned (eV) ∧ Kd.R (Kd.int .i64) 3 w' w.heap.size (fun _ => True) eV r ∧ Below w.heap.size w w' := by
 have hu32 := Tryz.underlying32; have bq := zA bD; have bL := zA bE; clear bD bE; have bu := zA bF; have bO := zA bG; clear bF bG; have bP := zA bH; have bQ := zA bI; clear bH bI; have bR := zA bJ; have bV := zA bK; clear bJ bK; have eT := zA eJ; have g5 := zA eK; clear eJ eK; have HB := zA (Below.refl w.heap.size w); have H : (impl_Binary_closedSet.l0 k (([] : List Int)) l1 (l1.length : Int) 0 af aj ab ae ai ag) = some r := h; clear h; obtain ⟨l8, e_y⟩ : ∃ y_ : List Int, y_ = (([] : List Int)) := ⟨_, rfl⟩
 replace H : (impl_Binary_closedSet.l0 k l8 l1 (l1.length : Int) 0 af aj ab ae ai ag) = some r := zz05
 have j4 := zA e_y; clear e_y; have H' := zA H; clear H; go_enter Tryz.func60, Tryz.ntmps60; go_wp2_with (first | ((with_reducible refine gate_dst (N := 2) rfl ?_); refine box_event ?hg (N := 2) ?hd (cs := #[.int .i64 af, .int .i64 aj, .slice az ab.length aq, .slice ay ae.length av, .slice ar ai.length au, .slice aw ag.length ax]) (t := 32) ?hr ?_; (case hd => rfl); (case hg => rfl); (case hr => first | (go_simp; done) | (go_simp; rfl)); intro ad hg w3 hbox hb; have aa := zA (hbox); have b0 := zA ((by rw [hg]; exact (zF (zz0u HB)) : w.heap.size ≤ ad)); have ac := zA ((by rw [hg]; exact (zF (zz0u HB)) : w.heap.size ≤ ad)); replace HB := zA (zG (zz0u HB) hb); clear hb hbox hg) | ((with_reducible refine gate_dst (N := 8) rfl ?_); refine Kd.R_lit (Kd.int .i64) _ 3 ?hg (N := 8) ?hd (xs := ([] : List Int)) (inner := []) (ok := fun _ => True) (okp := fun _ => True) ?hr ?hp (fun _ hk => hk) trivial (Below.refl _ _) (Nat.le_refl _) zz1m ?_; (case hd => rfl); (case hg => rfl); (case hr => first | (go_simp; done) | (go_simp; rfl)); (case hp => exact (Reps.none _ _)); intro e0 w4 jt hb hg_ hnew_; clear hg_ hnew_; (first | rw [← j4.out] at jt | (simp only [Int.reduceToNat] at jt; rw [← j4.out] at jt)); have dD := zA (Kd.R_lower jt (zF (zz0l HB ac))); replace aa := zA (zMp aa.out hb); replace HB := zA (zG (zz0l HB ac) hb); clear hb jt)); go_loopg [5, 11] k (fun kq v5 kg w' => ∃ (ao : List Int) (aC : Int), kg = .int .i64 aC ∧ Aside0 (impl_Binary_closedSet.l0 kq ao l1 (l1.length : Int) aC af aj ab ae ai ag = some r) ∧ Aside0 (kq ≤ k) ∧ Aside0 (Kd.R (Kd.int .i64) 3 w' w.heap.size (fun _ => True) v5 ao) ∧ Aside0 (w'.heap[ad]? = some (.cells #[.int .i64 af, .int .i64 aj, (.slice az ab.length aq), (.slice ay ae.length av), (.slice ar ai.length au), (.slice aw ag.length ax)] 32 (0, 0))) ∧ Aside0 (Below w.heap.size w w'))
 case atStart => exact ⟨(l8), (0), zz12, H', ⟨Nat.le_refl _⟩, ⟨zz0y dD⟩, ⟨zz0w aa⟩, ⟨zz0l HB ac⟩⟩
 case round =>
  clear H'; (try clear c1); (try clear p2); obtain ⟨ao, aC, rfl, HA, bw, cS, aa, HB⟩ := hrel; cases gk with
  | zero => exact absurd HA.out (by simp [impl_Binary_closedSet.l0])
  | succ k1 =>
   have H := HA.out; clear HA; simp only [impl_Binary_closedSet.l0] at H; by_cases c6 : aC < (l1.length : Int)
   · rw [if_pos c6] at H; have dk := decide_eq_true c6; clear c6; replace H := zIn H; obtain ⟨c7, H⟩ := H; have dF : decide (0 ≤ aC) = true := decide_eq_true c7; clear c7; replace H := zIn H; obtain ⟨c8, H⟩ := H; have d3 : decide (aC < (l1.length : Int)) = true := decide_eq_true c8; clear c8; replace H := Option.bind_eq_some_iff.mp H; obtain ⟨cB, mX, H⟩ := H; have A9 := zA mX; clear mX; replace H := Option.bind_eq_some_iff.mp H; obtain ⟨eS, gy, H⟩ := H; have l4 := zA gy; clear gy; have H' := zA H; clear H; have cb : 0 ≤ (aC : Int) := of_decide_eq_true zz1g; have cc : aC < (l1.length : Int) := of_decide_eq_true zz1g; obtain ⟨dT, dH, aD⟩ := Kd.at_int eT.out aC cb cc; cases dH; replace aD := (HB.out.cell (World.block_lt_of_cell? w _ aD)).trans aD; replace cb := eq_true cb; replace cc := eq_true cc; obtain ⟨iI, iJ, iK, iL, iM, iN⟩ := zk6 aa.out; go_wp2_with (first | ((with_reducible refine gate_callee (f := 57) rfl ?_); refine goesL_ (some 18) rfl rfl Tryz.func57 zz1h rfl #[.agg #[.int .i64 af, .int .i64 aj, .slice az ab.length aq, .slice ay ae.length av, .slice ar ai.length au, .slice aw ag.length ax], .int .i64 (rd l1 aC)] rfl zz0h ?_; (with_reducible refine (impl_Binary_unitRow.calls af aj _ _ ab _ _ ae _ _ ai _ _ ag (rd l1 aC) cB _ ?al ?am ?aK ?aM ?bl ?bm ?bn ?bo A9.out).mono ?_); (case al => exact (zz0x bq HB)); (case am => exact bL.out); (case aK => exact (zz0x bu HB)); (case aM => exact bO.out); (case bl => exact (zz0x bP HB)); (case bm => exact bQ.out); (case bn => exact (zz0x bR HB)); (case bo => exact bV.out); rintro e kf ⟨rg, rfl, cd, hb⟩; refine ⟨_, rfl, ?_⟩; have d9 := zA (Kd.R_lower (Kd.R_new' cd (Kd.R_lt (zz0y cS))) (zF (zz0l HB ac))); replace cS := zA (Kd.R_elder' (zz0y cS) (Kd.R_base cd) hb); replace aa := zA (zMp aa.out hb); replace HB := zA (zG (zz0l HB ac) hb); (try clear hb); (try clear hb2); (try clear hk); (try clear hi); (try clear cd); obtain ⟨l5, kA, m8⟩ := Kd.R_slice cS.out; subst m8; obtain ⟨ip, iq, kj⟩ := Kd.R_slice d9.out; subst kj) | ((with_reducible refine gate_callee (f := 77) rfl ?_); refine goesL_ (some 19) rfl rfl Tryz.func77 zz1h rfl #[.slice l5 ao.length kA, .slice ip cB.length iq] rfl zz0h ?_; (with_reducible refine (impl_union.calls _ _ ao _ _ cB eS _ ?al ?am ?aK ?aM l4.out).mono ?_); (case al => repeat (first | exact (Kd.R_reads' cS.out).2.2 | refine zP ?_ _ | refine zQ ?_ _ | refine zR ?_)); (case am => exact (Kd.R_reads' cS.out).2.1); (case aK => repeat (first | exact (Kd.R_reads' d9.out).2.2 | refine zP ?_ _ | refine zQ ?_ _ | refine zR ?_)); (case aM => exact (Kd.R_reads' d9.out).2.1); rintro e rI ⟨nN, rfl, cd, hb⟩; refine ⟨_, rfl, ?_⟩; have fJ := zA (Kd.R_lower (Kd.R_new' (Kd.R_new' cd (Kd.R_lt (zz0y cS))) (Kd.R_lt (zz0y d9))) (zF (zz0l HB ac))); replace cS := zA (Kd.R_elder' (zz0y cS) (Kd.R_base cd) hb); replace d9 := zA (Kd.R_elder' (zz0y d9) (Kd.R_base cd) hb); replace aa := zA (zMp aa.out hb); replace HB := zA (zG (zz0l HB ac) hb); (try clear hb); (try clear hb2); (try clear hk); (try clear hi); (try clear cd)))
     go_roundg k1
     case measure => have := bw.out; omega
     case rel => exact ⟨(eS), (wrap64 (aC + 1)), zz12, H', ⟨zz1b bw⟩, ⟨zz0m fJ⟩, ⟨zz0w aa⟩, ⟨zz0l HB ac⟩⟩
   · rw [if_neg c6] at H; have dk := decide_eq_false c6; clear c6; obtain rfl := Option.some.inj H; go_wp2; go_ret; exact ⟨_, zz0v, zz0y cS, zz0l HB ac⟩
end Go.Proofs.YtkocahlifffgjaaGreat.P
namespace Go.Proofs.YtkocahlifffgjaaGreat.P
open Go.RowKit Go.Proofs.YtkocahlifffgjaaGreatW.PrintWords
set_option linter.unusedVariables false
set_option linter.unusedSimpArgs false
theorem unionC_eq (a b : List Int) (h : a.length + b.length < 17592186044416) : impl_union.f a b = some (sortI (a ++ b)) := by
 unfold impl_union.f slices_Sort_int_int.f slices_Compact_int_int.f; simp only [Option.bind_some, List.length_nil, List.nil_append]; rw [if_pos zz1l, if_pos h, if_pos (by rw [List.length_append]; omega)]; simp only [Option.bind_some]; rw [if_pos (by rw [mergeI_len, List.length_append]; omega)]; simp only [Option.bind_some]; rw [compact_sort]
def closeU (n : Nat) (ps : List (List Int)) (out : List Int) (l : List Int) : List Int := l.foldl (fun o x => sortI (o ++ rowU n ps x)) out
structure ClI (n : Nat) (out : List Int) : Prop where
 up : UpI out
 rg : ∀ x, x ∈ out → 0 ≤ x ∧ x < n
theorem ClI.len {n : Nat} {out : List Int} (h : ClI n out) : out.length ≤ n := by
 have := upI_len out 0 n h.up h.rg zz1l; omega
theorem ClI.join {n : Nat} {ps : List (List Int)} (hP : PairsIn n ps) {out : List Int} (h : ClI n out) {x : Int} (hx : x < n) : ClI n (sortI (out ++ rowU n ps x)) :=
 ⟨sortI_up _, fun z hz => by
  rw [mem_sortI, List.mem_append] at hz; rcases hz with e | e
  · exact h.rg z e
  · obtain ⟨h0, hu⟩ := (mem_rowU hP hx z).1 e; rcases upR_lt hP hu with e | e
    · omega
    · exact e⟩
theorem closeU_ok {n : Nat} {ps : List (List Int)} (hP : PairsIn n ps) : ∀ (l out : List Int), ClI n out → (∀ x, x ∈ l → x < n) → ClI n (closeU n ps out l) ∧ ∀ z, z ∈ closeU n ps out l ↔ z ∈ out ∨ ∃ x, x ∈ l ∧ z ∈ rowU n ps x
 | [], out, h, _ => ⟨h, fun z => by unfold closeU; simp⟩
 | x :: l, out, h, hl => by
  have hx := hl x List.mem_cons_self; obtain ⟨h1, h2⟩ := closeU_ok hP l (sortI (out ++ rowU n ps x)) (h.join hP hx) (fun y hy => hl y (List.mem_cons_of_mem _ hy)); refine ⟨h1, fun z => (h2 z).trans ?_⟩; rw [mem_sortI, List.mem_append]; constructor
  · rintro ((e | e) | ⟨y, hy, e⟩)
    · exact .inl e
    · exact .inr ⟨x, List.mem_cons_self, e⟩
    · exact .inr ⟨y, List.mem_cons_of_mem _ hy, e⟩
  · rintro (e | ⟨y, hy, e⟩)
    · exact .inl (.inl e)
    · rcases List.mem_cons.1 hy with q | q
      · rw [q] at e; exact .inl (.inr e)
      · exact .inr ⟨y, q, e⟩
section
variable {n : Nat} {toks : Int} {l2 l3 : List (List Int)} {l4 : List Int} {l5 : List (List Int)} (hg : goodB (n : Int) toks l2 l3 l4 l5 = true) (h2 : l2.length ≤ 1048576) (h3 : l3.length ≤ 1048576)
include hg h2 h3
theorem cls_impl (s : List Int) (hs : s.length ≤ 17592186044415) (hr : ∀ x, x ∈ s → 0 ≤ x ∧ x < (n : Int)) (d : Nat) : ∀ (i : Nat) (out : List Int), i ≤ s.length → s.length - i = d → ClI n out → Ev (fun k => impl_Binary_closedSet.l0 k out s s.length i (n : Int) toks l2 l3 l4 l5) (closeU n (pairsU n l4 l3 l2) out (s.drop i)) := by
 have ok := goodB_ok hg; have hn := ok.n; have ht := ok.t; have hP := pairsU_in ok
 induction d with
 | zero =>
  intro i out h1 hd ho; refine ⟨1, fun k hk => ?_⟩; dsimp only; obtain ⟨k, rfl⟩ : ∃ m, k = m + 1 := ⟨k - 1, zz1l⟩
  simp only [impl_Binary_closedSet.l0]; rw [if_neg zz1l, List.drop_of_length_le zz1l]; rfl
 | succ d ih =>
  intro i out h1 hd ho; have ed : s.drop i = rd s i :: s.drop (i + 1) := getD_drop s i 0 zz1l; have hx := hr (rd s i) (rd_in zz1l); obtain ⟨K, h⟩ := ih (i + 1) _ zz1l zz1l (ho.join hP hx.2); dsimp only at h; have hl1 := ho.len; have hl2 := rowU_len hP hx.2; refine ⟨K + 1, fun k hk => ?_⟩; dsimp only; obtain ⟨k, rfl⟩ : ∃ m, k = m + 1 := ⟨k - 1, zz1l⟩
  simp only [impl_Binary_closedSet.l0]; unfold impl_Binary_unitRow.f; rw [if_pos zz1l, if_pos zz1l, if_pos zz1l, if_pos ⟨⟨hg, h2, h3⟩, zz1l⟩, Int.toNat_natCast]; simp only [Option.bind_some]; rw [unionC_eq _ _ zz1l]; simp only [Option.bind_some]; rw [wsuccL (show i < s.length by omega) zz1l, h k zz1l, ed]; rfl
end
end Go.Proofs.YtkocahlifffgjaaGreat.P
namespace Go.Proofs.YtkocahlifffgjaaGreat.P
open Go.RowKit Go.Proofs.YtkocahlifffgjaaGreatW.PrintWords Go.Proofs.YtkocahlifffgjaaGreatW.PrintLast Go.Proofs.YtkocahlifffgjaaGreatW.PrintMore
attribute [local go_sem] max2_int min2_int max_two min_two max_three min_three max_four min_four
set_option linter.unusedVariables false
set_option linter.unusedSimpArgs false
def spec_l7No.l0 : Nat → Int → Int → Int → Int → Option (Int)
 | 0, _, _, _, _ => none
 | k + 1, x0, x7, x8, x9 => if x9 < x7 then (spec_l7No.l0 k x0 x7 (wrap64 (x8 + (wrap64 ((wrap64 (x0 - x9)) + 1)))) (wrap64 (x9 + 1))) else (some x8)
def spec_l7No.f (k : Nat) (a0 : Int) (a1 : Int) (a2 : Int) : Option (Int) := spec_l7No.l0 k a0 (wrap64 (a2 - a1)) a1 1
theorem spec_l7No.mono_l : ∀ k, (∀ y0 y1 y2 y3, LeO (spec_l7No.l0 k y0 y1 y2 y3) (spec_l7No.l0 (k + 1) y0 y1 y2 y3))
 | 0 => fun _ _ _ _ r h => by simp [spec_l7No.l0] at h
 | k + 1 => by
  have np := spec_l7No.mono_l k
  · intro y0 y1 y2 y3; unfold spec_l7No.l0
    repeat' first
    | (with_reducible exact np _ _ _ _)
    | (with_reducible exact LeO.refl _)
    | (with_reducible exact LeO.none _)
    | (with_reducible refine LeO.ite ?_ ?_)
    | (with_reducible refine LeO.bind ?_ (fun _ => ?_))
    | exact np _ _ _ _
    | exact LeO.none _
    | refine LeO.ite ?_ ?_
    | refine LeO.bind ?_ (fun _ => ?_)
theorem spec_l7No.mono : ∀ a0 a1 a2 k, LeO (spec_l7No.f k a0 a1 a2) (spec_l7No.f (k + 1) a0 a1 a2) := by
 intro a0 a1 a2 k; have np := spec_l7No.mono_l k; unfold spec_l7No.f
 repeat' first
  | (with_reducible exact np _ _ _ _)
  | (with_reducible exact LeO.refl _)
  | (with_reducible exact LeO.none _)
  | (with_reducible refine LeO.ite ?_ ?_)
  | (with_reducible refine LeO.bind ?_ (fun _ => ?_))
  | exact np _ _ _ _
  | exact LeO.none _
  | refine LeO.ite ?_ ?_
  | refine LeO.bind ?_ (fun _ => ?_)
set_option maxHeartbeats 8000000 in
set_option maxRecDepth 100000 in
theorem spec_l7No.calls (k : Nat) (a0 : Int) (a1 : Int) (a2 : Int) (r : Int) (w : World) (h : spec_l7No.f k a0 a1 a2 = some r) :
 Calls Tryz.prog 62 #[.int .i64 a0, .int .i64 a1, .int .i64 a2] w fun e w' => e = .returned (.int .i64 r) ∧ Drawn0 w w' := by
 have H : (spec_l7No.l0 k a0 (wrap64 (a2 - a1)) a1 1) = some r := h; clear h; have H' := zA H; clear H; go_enter Tryz.func62, Tryz.ntmps62; go_wp2; go_loopg [8, 9] k (fun kq v8 v9 w' => ∃ (b3 : Int) (ca : Int), v8 = .int .i64 b3 ∧ v9 = .int .i64 ca ∧ Aside0 (spec_l7No.l0 kq a0 (wrap64 (a2 - a1)) b3 ca = some r) ∧ Aside0 (kq ≤ k) ∧ Drawn0 w w')
 case atStart => exact ⟨(a1), (1), zz12, zz12, H', ⟨Nat.le_refl _⟩, zz10⟩
 case round =>
  clear H'; (try clear p2); obtain ⟨b3, ca, rfl, rfl, HA, bw, ⟨m1, rfl⟩⟩ := hrel; cases gk with
  | zero => exact absurd HA.out (by simp [spec_l7No.l0])
  | succ k1 =>
   have H := HA.out; clear HA; simp only [spec_l7No.l0] at H; by_cases c4 : ca < (wrap64 (a2 - a1))
   · rw [if_pos c4] at H; have cZ := decide_eq_true c4; clear c4; have H' := zA H; clear H; go_wp2
     go_roundg k1
     case measure => have := bw.out; omega
     case rel => exact ⟨(wrap64 (b3 + (wrap64 ((wrap64 (a0 - ca)) + 1)))), (wrap64 (ca + 1)), zz12, zz12, H', ⟨zz1b bw⟩, zz10⟩
   · rw [if_neg c4] at H; have cZ := decide_eq_false c4; clear c4; obtain rfl := Option.some.inj H; go_wp2; go_ret; exact ⟨zz12, zz10⟩
def impl_cellNo.l0 : Nat → Int → Int → Int → Int → Int → Option (Int)
 | 0, _, _, _, _, _ => none
 | k + 1, x0, x1, x2, x7, x8 => if x8 < (wrap64 (x2 - x1)) then (impl_cellNo.l0 k x0 x1 x2 (wrap64 (x7 + (wrap64 ((wrap64 (x0 - x8)) + 1)))) (wrap64 (x8 + 1))) else (some x7)
def impl_cellNo.f (k : Nat) (a0 : Int) (a1 : Int) (a2 : Int) : Option (Int) := impl_cellNo.l0 k a0 a1 a2 a1 1
theorem impl_cellNo.mono_l : ∀ k, (∀ y0 y1 y2 y3 y4, LeO (impl_cellNo.l0 k y0 y1 y2 y3 y4) (impl_cellNo.l0 (k + 1) y0 y1 y2 y3 y4))
 | 0 => fun _ _ _ _ _ r h => by simp [impl_cellNo.l0] at h
 | k + 1 => by
  have np := impl_cellNo.mono_l k
  · intro y0 y1 y2 y3 y4; unfold impl_cellNo.l0
    repeat' first
    | (with_reducible exact np _ _ _ _ _)
    | (with_reducible exact LeO.refl _)
    | (with_reducible exact LeO.none _)
    | (with_reducible refine LeO.ite ?_ ?_)
    | (with_reducible refine LeO.bind ?_ (fun _ => ?_))
    | exact np _ _ _ _ _
    | exact LeO.none _
    | refine LeO.ite ?_ ?_
    | refine LeO.bind ?_ (fun _ => ?_)
theorem impl_cellNo.mono : ∀ a0 a1 a2 k, LeO (impl_cellNo.f k a0 a1 a2) (impl_cellNo.f (k + 1) a0 a1 a2) := by
 intro a0 a1 a2 k; have np := impl_cellNo.mono_l k; unfold impl_cellNo.f
 repeat' first
  | (with_reducible exact np _ _ _ _ _)
  | (with_reducible exact LeO.refl _)
  | (with_reducible exact LeO.none _)
  | (with_reducible refine LeO.ite ?_ ?_)
  | (with_reducible refine LeO.bind ?_ (fun _ => ?_))
  | exact np _ _ _ _ _
  | exact LeO.none _
  | refine LeO.ite ?_ ?_
  | refine LeO.bind ?_ (fun _ => ?_)
set_option maxHeartbeats 8000000 in
set_option maxRecDepth 100000 in
theorem impl_cellNo.calls (k : Nat) (a0 : Int) (a1 : Int) (a2 : Int) (r : Int) (w : World) (h : impl_cellNo.f k a0 a1 a2 = some r) :
 Calls Tryz.prog 63 #[.int .i64 a0, .int .i64 a1, .int .i64 a2] w fun e w' => e = .returned (.int .i64 r) ∧ Drawn0 w w' := by
 have H : (impl_cellNo.l0 k a0 a1 a2 a1 1) = some r := h; clear h; have H' := zA H; clear H; go_enter Tryz.func63, Tryz.ntmps63; go_wp2; go_loopg [7, 8] k (fun kq v7 v8 w' => ∃ (dr : Int) (b3 : Int), v7 = .int .i64 dr ∧ v8 = .int .i64 b3 ∧ Aside0 (impl_cellNo.l0 kq a0 a1 a2 dr b3 = some r) ∧ Aside0 (kq ≤ k) ∧ Drawn0 w w')
 case atStart => exact ⟨(a1), (1), zz12, zz12, H', ⟨Nat.le_refl _⟩, zz10⟩
 case round =>
  clear H'; (try clear p2); obtain ⟨dr, b3, rfl, rfl, HA, bw, ⟨m1, rfl⟩⟩ := hrel; cases gk with
  | zero => exact absurd HA.out (by simp [impl_cellNo.l0])
  | succ k1 =>
   have H := HA.out; clear HA; simp only [impl_cellNo.l0] at H; by_cases c4 : b3 < (wrap64 (a2 - a1))
   · rw [if_pos c4] at H; have cZ := decide_eq_true c4; clear c4; have H' := zA H; clear H; go_wp2
     go_roundg k1
     case measure => have := bw.out; omega
     case rel => exact ⟨(wrap64 (dr + (wrap64 ((wrap64 (a0 - b3)) + 1)))), (wrap64 (b3 + 1)), zz12, zz12, H', ⟨zz1b bw⟩, zz10⟩
   · rw [if_neg c4] at H; have cZ := decide_eq_false c4; clear c4; obtain rfl := Option.some.inj H; go_wp2; go_ret; exact ⟨zz12, zz10⟩
end Go.Proofs.YtkocahlifffgjaaGreat.P
namespace Go.Proofs.YtkocahlifffgjaaGreat.P
open Go.RowKit Go.Proofs.YtkocahlifffgjaaGreatW.PrintWords
set_option linter.unusedVariables false
set_option linter.unusedSimpArgs false
theorem no_all : ∀ n f t : Fin 11, f.val < t.val → t.val ≤ n.val → spec_l7No.f 20 n.val f.val t.val = impl_cellNo.f 20 n.val f.val t.val ∧ (match spec_l7No.f 20 n.val f.val t.val with | some r => decide (0 ≤ r ∧ r < wrap64 (Int.tdiv (wrap64 ((n.val : Int) * (wrap64 ((n.val : Int) + 1)))) 2)) | none => false) = true := by decide +kernel
theorem no_at (n f t : Int) (hn : n ≤ 10) (hf : 0 ≤ f) (hft : f < t) (htn : t ≤ n) : ∃ r : Int, (∀ k, 20 ≤ k → spec_l7No.f k n f t = some r) ∧ (∀ k, 20 ≤ k → impl_cellNo.f k n f t = some r) ∧ 0 ≤ r ∧ r < wrap64 (Int.tdiv (wrap64 (n * (wrap64 (n + 1)))) 2) := by
 obtain ⟨n, rfl⟩ : ∃ m : Nat, n = m := ⟨n.toNat, zz1l⟩
 obtain ⟨f, rfl⟩ : ∃ m : Nat, f = m := ⟨f.toNat, zz1l⟩
 obtain ⟨t, rfl⟩ : ∃ m : Nat, t = m := ⟨t.toNat, zz1l⟩
 obtain ⟨h1, h2⟩ := no_all ⟨n, zz1l⟩ ⟨f, zz1l⟩ ⟨t, zz1l⟩ (by show f < t; omega) (by show t ≤ n; omega); dsimp only at h1 h2; cases hv : spec_l7No.f 20 n f t with
 | none => rw [hv] at h2; cases h2
 | some r =>
  rw [hv] at h2; have h3 := of_decide_eq_true h2; rw [hv] at h1; refine ⟨r, fun k hk => at_rounds (g := fun k => spec_l7No.f k n f t) (fun k => spec_l7No.mono _ _ _ k) hk hv, fun k hk => at_rounds (g := fun k => impl_cellNo.f k n f t) (fun k => impl_cellNo.mono _ _ _ k) hk h1.symm, h3.1, h3.2⟩
end Go.Proofs.YtkocahlifffgjaaGreat.P
namespace Go.Proofs.YtkocahlifffgjaaGreat.P
open Go.RowKit Go.Proofs.YtkocahlifffgjaaGreatW.PrintWords Go.Proofs.YtkocahlifffgjaaGreatW.PrintLast Go.Proofs.YtkocahlifffgjaaGreatW.PrintMore
attribute [local go_sem] max2_int min2_int max_two min_two max_three min_three max_four min_four
set_option linter.unusedVariables false
set_option linter.unusedSimpArgs false
def slices_Index_int_int.l0 : Nat → List Int → Int → Int → Int → Option (Int)
 | 0, _, _, _, _ => none
 | k + 1, x0, x1, x7, x8 => if x8 < x7 then (if 0 ≤ x8 then (if x8 < (x0.length : Int) then (if x1 = (rd x0 x8) then (some x8) else (slices_Index_int_int.l0 k x0 x1 x7 (wrap64 (x8 + 1)))) else (none)) else (none)) else (some (-1))
def slices_Index_int_int.f (k : Nat) (l0 : List Int) (a1 : Int) : Option (Int) := slices_Index_int_int.l0 k l0 a1 (l0.length : Int) 0
set_option maxHeartbeats 8000000 in
set_option maxRecDepth 100000 in
theorem slices_Index_int_int.calls (k : Nat) (A0 : Option Addr) (c0 : Nat) (l0 : List Int) (a1 : Int) (r : Int) (w : World) (dA : Kd.C (Kd.int .i64) w A0 l0.length l0) (dB : l0.length ≤ c0) (h : slices_Index_int_int.f k l0 a1 = some r) :
 Calls Tryz.prog 88 #[.slice A0 l0.length c0, .int .i64 a1] w fun e w' => e = .returned (.int .i64 r) ∧ Drawn0 w w' := by
 have dm := zA dA; have im := zA dB; clear dA dB; have H : (slices_Index_int_int.l0 k l0 a1 (l0.length : Int) 0) = some r := h; clear h; have H' := zA H; clear H; go_enter Tryz.func88, Tryz.ntmps88; go_wp2; go_loopg [8] k (fun kq v8 w' => ∃ (b3 : Int), v8 = .int .i64 b3 ∧ Aside0 (slices_Index_int_int.l0 kq l0 a1 (l0.length : Int) b3 = some r) ∧ Aside0 (kq ≤ k) ∧ Drawn0 w w')
 case atStart => exact ⟨(0), zz12, H', ⟨Nat.le_refl _⟩, zz10⟩
 case round =>
  clear H'; (try clear p2); obtain ⟨b3, rfl, HA, bw, ⟨m1, rfl⟩⟩ := hrel; cases gk with
  | zero => exact absurd HA.out (by simp [slices_Index_int_int.l0])
  | succ k1 =>
   have H := HA.out; clear HA; simp only [slices_Index_int_int.l0] at H; by_cases c3 : b3 < (l0.length : Int)
   · rw [if_pos c3] at H; have cL := decide_eq_true c3; clear c3; replace H := zIn H; obtain ⟨c4, H⟩ := H; have cZ : decide (0 ≤ b3) = true := decide_eq_true c4; clear c4; replace H := zIn H; obtain ⟨c5, H⟩ := H; have eQ : decide (b3 < (l0.length : Int)) = true := decide_eq_true c5; clear c5; by_cases c6 : a1 = (rd l0 b3)
     · rw [if_pos c6] at H; have dk : (a1 == (rd l0 b3)) = true := beq_iff_eq.mpr c6; have hE : (a1 != (rd l0 b3)) = false := bne_eq_false_iff_eq.mpr c6; clear c6; obtain rfl := Option.some.inj H; have aH : 0 ≤ (b3 : Int) := of_decide_eq_true zz1g; have aI : b3 < (l0.length : Int) := of_decide_eq_true zz1g; obtain ⟨bf, bx, a9⟩ := Kd.at_int dm.out b3 aH aI; cases bx; replace aH := eq_true aH; replace aI := eq_true aI; go_wp2; go_ret; exact ⟨zz12, zz10⟩
     · rw [if_neg c6] at H; have dk : (a1 == (rd l0 b3)) = false := beq_eq_false_iff_ne.mpr c6; have hE : (a1 != (rd l0 b3)) = true := bne_iff_ne.mpr c6; have H' := zA H; clear H; have aH : 0 ≤ (b3 : Int) := of_decide_eq_true zz1g; have aI : b3 < (l0.length : Int) := of_decide_eq_true zz1g; obtain ⟨bf, bx, a9⟩ := Kd.at_int dm.out b3 aH aI; cases bx; replace aH := eq_true aH; replace aI := eq_true aI; go_wp2
       go_roundg k1
       case measure => have := bw.out; omega
       case rel => exact ⟨(wrap64 (b3 + 1)), zz12, H', ⟨zz1b bw⟩, zz10⟩
   · rw [if_neg c3] at H; have cL := decide_eq_false c3; clear c3; obtain rfl := Option.some.inj H; go_wp2; go_ret; exact ⟨zz12, zz10⟩
def slices_Contains_int_int.f (k : Nat) (l0 : List Int) (a1 : Int) : Option (Bool) := (slices_Index_int_int.f k l0 a1).bind fun dQ => (some (decide (dQ ≥ 0)))
set_option maxHeartbeats 8000000 in
set_option maxRecDepth 100000 in
theorem slices_Contains_int_int.calls (k : Nat) (A0 : Option Addr) (c0 : Nat) (l0 : List Int) (a1 : Int) (r : Bool) (w : World) (dA : Kd.C (Kd.int .i64) w A0 l0.length l0) (dB : l0.length ≤ c0) (h : slices_Contains_int_int.f k l0 a1 = some r) :
 Calls Tryz.prog 76 #[.slice A0 l0.length c0, .int .i64 a1] w fun e w' => e = .returned (.bool r) ∧ Drawn0 w w' := by
 have dm := zA dA; have im := zA dB; clear dA dB; have H : ((slices_Index_int_int.f k l0 a1).bind fun dQ => (some (decide (dQ ≥ 0)))) = some r := h; clear h; replace H := Option.bind_eq_some_iff.mp H; obtain ⟨dQ, f4, H⟩ := H; have A3 := zA f4; clear f4; obtain rfl := Option.some.inj H; go_enter Tryz.func76, Tryz.ntmps76; go_wp2_with (first | ((with_reducible refine gate_callee (f := 88) rfl ?_); refine goesL_ (some 7) rfl rfl Tryz.func88 zz1h rfl #[.slice A0 l0.length c0, .int .i64 a1] rfl zz0h ?_; (with_reducible refine (slices_Index_int_int.calls k _ _ l0 a1 dQ _ ?al ?am A3.out).mono ?_); (case al => repeat (first | exact dm.out | refine zP ?_ _ | refine zQ ?_ _ | refine zR ?_)); (case am => exact im.out); rintro e w' ⟨rfl, ⟨nd, rfl⟩⟩; refine ⟨_, rfl, ?_⟩)); go_ret; exact ⟨zz12, zz10⟩
end Go.Proofs.YtkocahlifffgjaaGreat.P
namespace Go.Proofs.YtkocahlifffgjaaGreat.P
open Go.RowKit Go.Proofs.YtkocahlifffgjaaGreatW.PrintWords
set_option linter.unusedVariables false
set_option linter.unusedSimpArgs false
theorem index_loop (l : List Int) (x : Int) (hb : l.length ≤ 9223372036854775807) (d : Nat) : ∀ (k i : Nat), i ≤ l.length → l.length - i = d → d < k →
 ∃ t, slices_Index_int_int.l0 k l x l.length i = some t ∧ (t ≥ 0 ↔ x ∈ l.drop i) := by
 induction d with
 | zero =>
  intro k i h1 hd hk; obtain ⟨k, rfl⟩ : ∃ m, k = m + 1 := ⟨k - 1, zz1l⟩
  refine ⟨-1, ?_, ?_⟩
  · simp only [slices_Index_int_int.l0]; rw [if_neg zz1l]
  · rw [List.drop_of_length_le zz1l]; simp
 | succ d ih =>
  intro k i h1 hd hk; obtain ⟨k, rfl⟩ : ∃ m, k = m + 1 := ⟨k - 1, zz1l⟩
  have ed : l.drop i = rd l i :: l.drop (i + 1) := getD_drop l i 0 zz1l; obtain ⟨t, e, ht⟩ := ih k (i + 1) zz1l zz1l zz1l; by_cases c : x = rd l i
  · refine ⟨i, ?_, ?_⟩
    · simp only [slices_Index_int_int.l0]; rw [if_pos zz1l, if_pos zz1l, if_pos zz1l, if_pos c]
    · rw [ed]; exact ⟨fun _ => by rw [c]; exact List.mem_cons_self, fun _ => by omega⟩
  · refine ⟨t, ?_, ?_⟩
    · simp only [slices_Index_int_int.l0]; rw [if_pos zz1l, if_pos zz1l, if_pos zz1l, if_neg c, wsuccL (show i < l.length by omega) hb, e]
    · rw [ht, ed, List.mem_cons]; exact ⟨.inr, fun h => h.resolve_left c⟩
theorem contains_eq (l : List Int) (x : Int) (hb : l.length ≤ 9223372036854775807) (k : Nat) (hk : l.length < k) : slices_Contains_int_int.f k l x = some (decide (x ∈ l)) := by
 unfold slices_Contains_int_int.f slices_Index_int_int.f; obtain ⟨t, e, ht⟩ := index_loop l x hb l.length k 0 (Nat.zero_le _) rfl hk; rw [show ((0 : Nat) : Int) = 0 from rfl] at e; rw [e]; simp only [Option.bind_some]; rw [List.drop_zero] at ht; exact congrArg some (decide_eq_decide.2 ht)
end Go.Proofs.YtkocahlifffgjaaGreat.P
namespace Go.Proofs.YtkocahlifffgjaaGreat.P
open Go.RowKit Go.Proofs.YtkocahlifffgjaaGreatW.PrintWords Go.Proofs.YtkocahlifffgjaaGreatW.PrintLast Go.Proofs.YtkocahlifffgjaaGreatW.PrintMore
set_option linter.unusedVariables false
set_option linter.unusedSimpArgs false
def tokB (toks x : Int) : Bool := decide (0 ≤ x ∧ x ≤ wrap64 (toks - 1))
set_option maxHeartbeats 2000000 in
theorem pred_tok (toks : Int) (B : Nat) (w : World) (hB : B < w.heap.size) (hcB : w.cell? ⟨B, 0, none⟩ = some (.int .i64 toks)) :
 PredI 56 #[.pointer (some ⟨B, 0, none⟩)] (fun x => !tokB toks x) w := fun W x hb => by
 have h1 : W.cell? ⟨B, 0, none⟩ = some (.int .i64 toks) := (hb.cell (p := ⟨B, 0, none⟩) hB).trans hcB; have hc := fun w => impl_in.calls x 0 (wrap64 (toks - 1)) _ w (impl_in_eq x 0 (wrap64 (toks - 1)))
 clear hb hcB; show Calls Tryz.prog 56 #[.int .i64 x, .pointer (some ⟨B, 0, none⟩)] W fun e w' => e = .returned (.bool (!decide (0 ≤ x ∧ x ≤ wrap64 (toks - 1)))) ∧ Below W.heap.size W w'
 generalize decide (0 ≤ x ∧ x ≤ wrap64 (toks - 1)) = b at hc ⊢; go_enter Tryz.func56, Tryz.ntmps56; go_wp2_with (go_at_call 48; refine (hc _).mono ?_; rintro e w' ⟨rfl, hd⟩); go_ret; exact ⟨rfl, drawn_below hd⟩
def wordB (t : Int) (l : List Int) : Bool := decide (l.length ≤ 10) && !(l.any fun x => !tokB t x)
def impl_isWord.f (a0 : Int) (l1 : List Int) : Option Bool := some (decide (l1.length ≤ 10) && !(l1.any fun x => !tokB a0 x))
set_option maxHeartbeats 2000000 in
theorem impl_isWord.calls (a0 : Int) (A1 : Option Addr) (c1 : Nat) (l1 : List Int) (r : Bool) (w : World) (hr1 : Kd.C (Kd.int .i64) w A1 l1.length l1) (hc1 : l1.length ≤ c1) (h : impl_isWord.f a0 l1 = some r) :
 Calls Tryz.prog 31 #[.int .i64 a0, .slice A1 l1.length c1] w fun e w' => e = .returned (.bool r) ∧ Below w.heap.size w w' := by
 obtain rfl := Option.some.inj h; clear h; have eg : ∀ args w, (callFunc 56 args).run Tryz.prog w = .ok (.enter 56 args) w := enters_of Tryz.func56 zz1h rfl; have H := zA fun (W : World) (B : Nat) (hW : Below w.heap.size w W) (hB : B < W.heap.size) (hcB : W.cell? ⟨B, 0, none⟩ = some (.int .i64 a0)) =>
  containsFunc_int _ #[.pointer (some ⟨B, 0, none⟩)] eg (fun x => !tokB a0 x) A1 c1 l1 W (zS hr1 hW) hc1 (pred_tok a0 B W hB hcB)
 clear hr1 hc1 eg; generalize (l1.any fun x => !tokB a0 x) = b at H ⊢; by_cases hl : l1.length ≤ 10
 · have hd : decide (l1.length ≤ 10) = true := decide_eq_true hl; have hd2 : decide ((l1.length : Int) ≤ 10) = true := decide_eq_true zz1l; clear hl; go_enter Tryz.func31, Tryz.ntmps31; go_wp2_with (go_at_call 55; refine (H.out _ _ zz11 (by simp <;> omega) zz1m).mono ?_; rintro e w' ⟨rfl, hb'⟩); go_ret; exact ⟨by simp [hd], zG zz11 hb'⟩
 · have hd : decide (l1.length ≤ 10) = false := decide_eq_false hl; have hd2 : decide ((l1.length : Int) ≤ 10) = false := decide_eq_false zz1l; clear hl; go_enter Tryz.func31, Tryz.ntmps31; go_wp2; go_ret; exact ⟨by simp [hd], zz11⟩
end Go.Proofs.YtkocahlifffgjaaGreat.P
