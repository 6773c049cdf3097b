/- A part of the proofs of some laws of this seat (words of the print and texts of this session, without what these laws do not use). -/
import Derived.Test.YtkocahlifffgjaaTFnExactAcceptsp1
import Derived.Test.YtkocahlifffgjaaTFnExactAcceptsp2
import Derived.Test.YtkocahlifffgjaaTFnExactAcceptsp3
import Derived.Test.YtkocahlifffgjaaTFnExactAcceptsp0
import Derived.Maps.OwnOps
namespace Go.Proofs.Ytkocahlifffgjaa.P
open Go.RowKit Go.Proofs.YtkocahlifffgjaaW.PrintWords Go.Proofs.YtkocahlifffgjaaW.PrintLast Go.Proofs.YtkocahlifffgjaaW.PrintMore
attribute [local go_sem] max2_int min2_int max_two min_two max_three min_three max_four min_four
set_option linter.unusedVariables false
set_option linter.unusedSimpArgs false
mutual
def spec_l6Pairs.l0 : Nat → List Int → List (List Int) → List (List Int) → Int → Int → Int → Int → List (List Int) → List (List Int) → List Int → List (List Int) → Option ((List (List Int)))
 | 0, _, _, _, _, _, _, _, _, _, _, _ => none
 | k + 1, x3, x4, hv, d5, dS, aN, aT, aE, aI, aQ, aM => if dS < d5 then (if 0 ≤ dS then (if dS < (hv.length : Int) then ((spec_l1Own.f (rd_L1 hv dS)).bind fun cL => ((spec_l5Insert.f k x4 cL).bind fun cK => (spec_l6Pairs.l0 k x3 cK hv d5 (wrap64 (dS + 1)) aN aT aE aI aQ aM))) else (none)) else (none)) else (spec_l6Pairs.l1 k x3 x4 aE (aE.length : Int) 0)
def spec_l6Pairs.l1 : Nat → List Int → List (List Int) → List (List Int) → Int → Int → Option ((List (List Int)))
 | 0, _, _, _, _, _ => none
 | k + 1, x3, x4, iV, lA, hG => if hG < lA then (if 0 ≤ hG then (if hG < (iV.length : Int) then (if 2 < ((rd_L1 iV hG).length : Int) then (if (rd (rd_L1 iV hG) 2) ≥ 0 then ((spec_l1Has.f k x3 (rd (rd_L1 iV hG) 2)).bind fun j1 => (spec_l6Pairs.j2 k x3 x4 (rd_L1 iV hG) iV lA hG j1)) else (spec_l6Pairs.j2 k x3 x4 (rd_L1 iV hG) iV lA hG false)) else (none)) else (none)) else (none)) else (some x4)
def spec_l6Pairs.j2 : Nat → List Int → List (List Int) → List Int → List (List Int) → Int → Int → Bool → Option ((List (List Int)))
 | 0, _, _, _, _, _, _, _ => none
 | k + 1, x3, x4, x8, iV, lA, hG, x40 => if x40 = true then (if 0 < (x8.length : Int) then (if 1 < (x8.length : Int) then ((spec_l5Insert.f k x4 (([rd x8 0, rd x8 1] : List Int))).bind fun lO => (spec_l6Pairs.j3 k x3 lO x8 iV lA hG)) else (none)) else (none)) else (spec_l6Pairs.j3 k x3 x4 x8 iV lA hG)
def spec_l6Pairs.j3 : Nat → List Int → List (List Int) → List Int → List (List Int) → Int → Int → Option ((List (List Int)))
 | 0, _, _, _, _, _, _ => none
 | k + 1, x3, x4, x8, iV, lA, hG => if 1 < (x8.length : Int) then (if (rd x8 1) ≥ 0 then ((spec_l1Has.f k x3 (rd x8 1)).bind fun qa => (if qa = true then (if 0 < (x8.length : Int) then (if 2 < (x8.length : Int) then ((spec_l5Insert.f k x4 (([rd x8 0, rd x8 2] : List Int))).bind fun lP => (spec_l6Pairs.l1 k x3 lP iV lA (wrap64 (hG + 1)))) else (none)) else (none)) else (spec_l6Pairs.l1 k x3 x4 iV lA (wrap64 (hG + 1))))) else (spec_l6Pairs.l1 k x3 x4 iV lA (wrap64 (hG + 1)))) else (none)
end
def spec_l6Pairs.f (k : Nat) (ah : Int) (ai : Int) (ab : List (List Int)) (ae : List (List Int)) (ag : List Int) (af : List (List Int)) : Option ((List (List Int))) := (spec_l5Null.f k ah ai ab ae ag af).bind fun aG => (spec_l6Pairs.l0 k aG ([] : List (List Int)) ae (ae.length : Int) 0 ah ai ab ae ag af)
def spec_l6Pairs.T12 : Bool × List (List Nat × List Nat) := (true, [([], []), ([], []), ([1], [1]), ([2], [2]), ([], []), ([4], [4]), ([5], [5]), ([3, 6], [3, 6]), ([0, 7], [0, 7]), ([8, 8, 0, 1, 2, 3, 4, 5, 6, 7, 8], [0, 8])])
def spec_l6Pairs.B12 : List Nat := [0, 0, 2, 6, 0, 16, 48, 126, 255, 511]
theorem spec_l6Pairs.tab12 : rtab .any (opsOf Try.f51 12) = spec_l6Pairs.T12 := by kernel_rfl
theorem spec_l6Pairs.bits12 : waitsOk spec_l6Pairs.T12.2 spec_l6Pairs.B12 = true := by kernel_rfl
def spec_l6Pairs.T14 : Bool × List (List Nat × List Nat) := (true, [([], []), ([], []), ([1], [1]), ([2], [2]), ([], []), ([4], [4]), ([5], [5]), ([3, 6], [3, 6]), ([0, 7], [0, 7]), ([8, 8, 0, 1, 2, 3, 4, 5, 6, 7, 8], [0, 8])])
def spec_l6Pairs.B14 : List Nat := [0, 0, 2, 6, 0, 16, 48, 126, 255, 511]
theorem spec_l6Pairs.tab14 : rtab .any (opsOf Try.f51 14) = spec_l6Pairs.T14 := by kernel_rfl
theorem spec_l6Pairs.bits14 : waitsOk spec_l6Pairs.T14.2 spec_l6Pairs.B14 = true := by kernel_rfl
set_option maxHeartbeats 8000000 in
set_option maxRecDepth 100000 in
theorem spec_l6Pairs.calls (k : Nat) (ah : Int) (ai : Int) (ay : Option Addr) (ap : Nat) (ab : List (List Int)) (ax : Option Addr) (au : Nat) (ae : List (List Int)) (aq : Option Addr) (ar : Nat) (ag : List Int) (av : Option Addr) (aw : Nat) (af : List (List Int)) (r : List (List Int)) (w : World) (bw : Kd.C (Kd.slice 3 (Kd.int .i64)) w ay ab.length ab) (bx : ab.length ≤ ap) (bz : Kd.C (Kd.slice 3 (Kd.int .i64)) w ax ae.length ae) (bA : ae.length ≤ au) (bB : Kd.C (Kd.int .i64) w aq ag.length ag) (bC : ag.length ≤ ar) (bD : Kd.C (Kd.slice 3 (Kd.int .i64)) w av af.length af) (bE : af.length ≤ aw) (h : spec_l6Pairs.f k ah ai ab ae ag af = some r) :
 Calls Try.prog 51 #[.agg #[.int .i64 ah, .int .i64 ai, .slice ay ab.length ap, .slice ax ae.length au, .slice aq ag.length ar, .slice av af.length aw]] w fun e w' => ∃ eQ : Value, e = .returned (eQ) ∧ Kd.V (Kd.slice 3 (Kd.int .i64)) 23 w' w.heap.size (fun k_ => (w.heap.size ≤ k_)) eQ r ∧ Below w.heap.size w w' := by
 have hu29 := Try.underlying29; have bm := zA bw; have bF := zA bx; clear bw bx; have bq := zA bz; have bG := zA bA; clear bz bA; have bH := zA bB; have bI := zA bC; clear bB bC; have bJ := zA bD; have bN := zA bE; clear bD bE; have HB := zA (Below.refl w.heap.size w); have H : ((spec_l5Null.f k ah ai ab ae ag af).bind fun aG => (spec_l6Pairs.l0 k aG ([] : List (List Int)) ae (ae.length : Int) 0 ah ai ab ae ag af)) = some r := h; clear h; replace H := Option.bind_eq_some_iff.mp H; obtain ⟨aG, l4, H⟩ := H; have A2 := zA l4; clear l4; have H' := zA H; clear H; go_enter Try.func51, Try.ntmps51; go_wp2_with (first | ((with_reducible refine gate_dst (N := 1) rfl ?_); refine box_event ?hg (N := 1) ?hd (cs := #[.int .i64 ah, .int .i64 ai, .slice ay ab.length ap, .slice ax ae.length au, .slice aq ag.length ar, .slice av af.length aw]) (t := 29) ?hr ?_; (case hd => rfl); (case hg => rfl); (case hr => first | (go_simp; done) | (go_simp; rfl)); intro ad hg w3 hbox hb; have aa := zA (hbox); have ce := zA ((by rw [hg]; exact (zF (zz0y HB)) : w.heap.size ≤ ad)); have ac := zA ((by rw [hg]; exact (zF (zz0y HB)) : w.heap.size ≤ ad)); replace HB := zA (zG (zz0y HB) hb); clear hb hbox hg; obtain ⟨d6, d7, d8, d9, ea, eb⟩ := zk6 aa.out; have mn := zL aa.out 5) | ((with_reducible refine gate_callee (f := 89) rfl ?_); refine goesL_ (some 10) rfl rfl Try.func89 zz1j rfl #[.agg #[.int .i64 ah, .int .i64 ai, .slice ay ab.length ap, .slice ax ae.length au, .slice aq ag.length ar, .slice av af.length aw]] rfl zz0i ?_; (with_reducible refine (spec_l5Null.calls k ah ai _ _ ab _ _ ae _ _ ag _ _ af aG _ ?ak ?al ?aJ ?aK ?be ?bf ?bg ?bh A2.out).mono ?_); (case ak => exact (zz11 bm HB)); (case al => exact bF.out); (case aJ => exact (zz11 bq HB)); (case aK => exact bG.out); (case be => exact (zz11 bH HB)); (case bf => exact bI.out); (case bg => exact (zz11 bJ HB)); (case bh => exact bN.out); rintro e w5 ⟨eP, rfl, b7, hb⟩; refine ⟨_, rfl, ?_⟩; have cU := zA (Kd.R_lower (Kd.R_newM (M := fun k_ => (w.heap.size ≤ k_)) b7 (zF (zz0p HB ac)) (fun k_ h_ => h_)) (zF (zz0p HB ac))); replace aa := zA (zMp aa.out hb); replace HB := zA (zG (zz0p HB ac) hb); (try clear hb); (try clear hb2); (try clear hk); (try clear hi); (try clear b7); obtain ⟨gS, gT, gU, gV, gW, gX⟩ := zk6 aa.out; have hfz6_5 := zL aa.out 5)); go_loopg [4, 14] k (fun kq v4 nQ w' => ∃ (b4 : List (List Int)) (ct : Int), nQ = .int .i64 ct ∧ Aside0 (spec_l6Pairs.l0 kq aG b4 ae (ae.length : Int) ct ah ai ab ae ag af = some r) ∧ Aside0 (kq ≤ k) ∧ Aside0 (Kd.R (Kd.int .i64) 3 w' w.heap.size (fun k_ => (w.heap.size ≤ k_)) eP aG) ∧ Aside0 (Kd.V (Kd.slice 3 (Kd.int .i64)) 23 w' w.heap.size (fun k_ => (w.heap.size ≤ k_) ∧ some k_ ≠ (eP : Value).ownBlock ∧ k_ ≠ ad) v4 b4) ∧ Aside0 (w'.heap[ad]? = some (.cells #[.int .i64 ah, .int .i64 ai, (.slice ay ab.length ap), (.slice ax ae.length au), (.slice aq ag.length ar), (.slice av af.length aw)] 29 (0, 0))) ∧ Aside0 (Below w.heap.size w w'))
 case atStart => exact ⟨(([] : List (List Int))), (0), zz16, H', ⟨Nat.le_refl _⟩, ⟨zz0s cU⟩, ⟨Kd.S_V (by first | exact Kd.S_nil _ _ _ 0 _ | exact Kd.S_nil _ _ _ _ _ | exact Kd.N_nil _ _ _ _ _ | exact Kd.V_nil _ _ _ _ _ | exact Kd.Q_nil _ _ _ _ _ | exact Kd.R_nil _ _ _ _ _)⟩, ⟨zz10 aa⟩, ⟨zz0p HB ac⟩⟩
 case round =>
  clear H'; (try clear p2); (try clear c5); (try clear d6); (try clear d7); (try clear d8); (try clear d9); (try clear ea); (try clear eb); (try clear gS); (try clear gT); (try clear gU); (try clear gV); (try clear gW); (try clear gX); obtain ⟨b4, ct, rfl, HA, bM, az, bb, aa, HB⟩ := hrel; cases gk with
  | zero => exact absurd HA.out (by simp [spec_l6Pairs.l0])
  | succ k1 =>
   have H := HA.out; clear HA; simp only [spec_l6Pairs.l0] at H; by_cases c7 : ct < (ae.length : Int)
   · rw [if_pos c7] at H; have dy := decide_eq_true c7; clear c7; replace H := zIn H; obtain ⟨c8, H⟩ := H; have dY : decide (0 ≤ ct) = true := decide_eq_true c8; clear c8; replace H := zIn H; obtain ⟨c9, H⟩ := H; have eR : decide (ct < (ae.length : Int)) = true := decide_eq_true c9; clear c9; replace H := Option.bind_eq_some_iff.mp H; obtain ⟨cL, fP, H⟩ := H; have kJ := zA fP; clear fP; replace H := Option.bind_eq_some_iff.mp H; obtain ⟨cK, mQ, H⟩ := H; have r7 := zA mQ; clear mQ; have H' := zA H; clear H; have b9 : 0 ≤ (ct : Int) := of_decide_eq_true zz1i; have ca : ct < (ae.length : Int) := of_decide_eq_true zz1i; obtain ⟨dN, ey, ez, dA, aD, bs, bt⟩ := at_L1 bq.out ct b9 ca; cases dA; replace aD := (HB.out.cell (World.block_lt_of_cell? w _ aD)).trans aD; have bW := zA bt; have cB := zA bs; clear bt bs; replace b9 := eq_true b9; replace ca := eq_true ca; go_wp2_with (first | ((with_reducible refine gate_callee (f := 65) rfl ?_); refine goesL_ (some 20) rfl rfl Try.func65 zz1j rfl #[.slice ey (rd_L1 ae ct).length ez] rfl zz0i ?_; (with_reducible refine (spec_l1Own.calls _ _ (rd_L1 ae ct) cL _ ?ak ?al kJ.out).mono ?_); (case ak => exact (zz11 bW HB)); (case al => exact cB.out); rintro e lZ ⟨v107, rfl, b7, hb⟩; refine ⟨_, rfl, ?_⟩; replace bb := zA (Kd.V_elder' (zz0w bb) (Kd.R_base b7) hb); have eM := zA (Kd.R_lower (Kd.R_new' (Kd.R_newM (M := fun k_ => (w.heap.size ≤ k_)) b7 (zF (zz0p HB ac)) (fun k_ h_ => h_)) (Kd.R_lt (zz12 az))) (zF (zz0p HB ac))); replace az := zA (Kd.R_elder' (zz12 az) (Kd.R_base b7) hb); replace aa := zA (zMp aa.out hb); replace HB := zA (zG (zz0p HB ac) hb); (try clear hb); (try clear hb2); (try clear hk); (try clear hi); (try clear b7); obtain ⟨lQ, kK, mR⟩ := Kd.V_slice bb.out; subst mR; obtain ⟨ks, kt, mq⟩ := Kd.R_slice eM.out; subst mq) | ((with_reducible refine gate_callee (f := 90) rfl ?_); refine goesL_ (some 21) rfl rfl Try.func90 zz1j rfl #[.slice lQ b4.length kK, .slice ks cL.length kt] rfl zz0i ?_; (with_reducible refine (spec_l5Insert.calls k1 (fun k_ => (((w.heap.size ≤ k_) ∧ (some k_ ≠ (eP : Value).ownBlock ∧ k_ ≠ ad)) ∧ some k_ ≠ (.slice ks cL.length kt : Value).ownBlock)) _ _ b4 (fun k_ => some k_ = (.slice ks cL.length kt : Value).ownBlock) _ _ cL cK _ ?ak ?al r7.out).mono ?_); (case ak => exact bb.out); (case al => exact Kd.R_V (Kd.R_tight rfl (Kd.R_types (eM.out) aa.out zz1m))); rintro e rF ⟨mA, rfl, b7, hb⟩; refine ⟨_, rfl, ?_⟩; replace bb := zA (Kd.V_below (zz0w bb) hb); have di := zA (Kd.V_lower (Kd.V_mono (ok' := fun k_ => (w.heap.size ≤ k_) ∧ some k_ ≠ (eP : Value).ownBlock ∧ k_ ≠ ad) b7 (fun k_ hk_ => ⟨Or.elim hk_ (fun hs_ => Or.elim hs_ (fun hs_ => hs_.1.1) (fun hs_ => ((Kd.R_types (eM.out) aa.out zz1m).1 k_ hs_.symm).1.1.1)) (fun hn_ => (Nat.le_trans (zF (zz0p HB ac)) hn_)), Or.elim hk_ (fun hs_ => Or.elim hs_ (fun hs_ => hs_.1.2.1) (fun hs_ => ((Kd.R_types (eM.out) aa.out zz1m).1 k_ hs_.symm).1.2)) (fun hn_ => (Kd.fresh' (Kd.R_lt (zz12 az)) k_ hn_)), Or.elim hk_ (fun hs_ => Or.elim hs_ (fun hs_ => hs_.1.2.2) (fun hs_ => ((Kd.R_types (eM.out) aa.out zz1m).1 k_ hs_.symm).2)) (fun hn_ => (Kd.freshB (g := ad) (o := .cells #[.int .i64 ah, .int .i64 ai, .slice ay ab.length ap, .slice (some dN) ae.length au, .slice aq ag.length ar, .slice av af.length aw] 29 (0, 0)) (zz10 aa) k_ hn_))⟩)) (zF (zz0p HB ac))); replace az := zA (Kd.R_below (zz12 az) hb); replace eM := zA (Kd.R_below (zz12 eM) hb); replace aa := zA (zMp aa.out hb); replace HB := zA (zG (zz0p HB ac) hb); (try clear hb); (try clear hb2); (try clear hk); (try clear hi); (try clear b7)))
     go_roundg k1
     case measure => have := bM.out; omega
     case rel => exact ⟨(cK), (wrap64 (ct + 1)), zz16, H', ⟨zz1e bM⟩, ⟨zz0s az⟩, ⟨zz0w di⟩, ⟨zz10 aa⟩, ⟨zz0p HB ac⟩⟩
   · rw [if_neg c7] at H; have dy := decide_eq_false c7; clear c7; have H' := zA H; clear H; obtain ⟨gf, gg, gh, gi, gj, gl⟩ := zk6 aa.out; go_wp2; go_loopg [4, 26] k1 (fun kq v4 rH w' => ∃ (cQ : List (List Int)) (aH : Int), rH = .int .i64 aH ∧ Aside0 (spec_l6Pairs.l1 kq aG cQ ab (ab.length : Int) aH = some r) ∧ Aside0 (kq ≤ k1) ∧ Aside0 (Kd.R (Kd.int .i64) 3 w' w.heap.size (fun k_ => (w.heap.size ≤ k_)) eP aG) ∧ Aside0 (Kd.V (Kd.slice 3 (Kd.int .i64)) 23 w' w.heap.size (fun k_ => (w.heap.size ≤ k_) ∧ some k_ ≠ (eP : Value).ownBlock ∧ k_ ≠ ad) v4 cQ) ∧ Aside0 (w'.heap[ad]? = some (.cells #[.int .i64 ah, .int .i64 ai, (.slice ay ab.length ap), (.slice ax ae.length au), (.slice aq ag.length ar), (.slice av af.length aw)] 29 (0, 0))) ∧ Aside0 (Below w.heap.size w w'))
     case atStart => exact ⟨(b4), (0), zz16, H', ⟨Nat.le_refl _⟩, ⟨zz12 az⟩, ⟨zz0w bb⟩, ⟨zz10 aa⟩, ⟨zz0p HB ac⟩⟩
     case round =>
      clear H'; (try clear c1); (try clear p1); (try clear q1); (try clear nC); (try clear p2); (try clear c5); (try clear c6); (try clear p6); (try clear c7); (try clear dy); (try clear c8); (try clear dY); (try clear c9); (try clear eR); (try clear e8); (try clear ju); (try clear jv); (try clear je); (try clear gf); (try clear gg); (try clear gh); (try clear gi); (try clear gj); (try clear gl); (try clear d6); (try clear d7); (try clear d8); (try clear d9); (try clear ea); (try clear eb); (try clear gS); (try clear gT); (try clear gU); (try clear gV); (try clear gW); (try clear gX); (try clear aD); (try clear b9); (try clear p2); (try clear ca); obtain ⟨cQ, aH, rfl, HA, cN, az, bb, aa, HB⟩ := hrel; cases gk with
      | zero => exact absurd HA.out (by simp [spec_l6Pairs.l1])
      | succ k2 =>
       have H := HA.out; clear HA; simp only [spec_l6Pairs.l1] at H; by_cases f5 : aH < (ab.length : Int)
       · rw [if_pos f5] at H; have hf := decide_eq_true f5; clear f5; replace H := zIn H; obtain ⟨gP, H⟩ := H; have hL : decide (0 ≤ aH) = true := decide_eq_true gP; clear gP; replace H := zIn H; obtain ⟨lR, H⟩ := H; have j4 : decide (aH < (ab.length : Int)) = true := decide_eq_true lR; clear lR; have qb := zA H; clear H; have it : 0 ≤ (aH : Int) := of_decide_eq_true zz1i; have iu : aH < (ab.length : Int) := of_decide_eq_true zz1i; obtain ⟨hM, A112_0, c112_0, py, dm, lh, li⟩ := at_L1 bm.out aH it iu; cases py; replace dm := (HB.out.cell (World.block_lt_of_cell? w _ dm)).trans dm; have dn := zA li; have HC112_0 := zA lh; clear li lh; replace it := eq_true it; replace iu := eq_true iu
         go_upto_region 11 with (fail)
         go_cut [40] (fun v40 wc => ∃ (kq : Nat) (jn : Bool), v40 = .bool jn ∧ Aside0 (spec_l6Pairs.j2 kq aG cQ (rd_L1 ab aH) ab (ab.length : Int) aH jn = some r) ∧ Aside0 (kq ≤ k2) ∧ Aside0 (Kd.R (Kd.int .i64) 3 wc w.heap.size (fun k_ => (w.heap.size ≤ k_)) eP aG) ∧ Aside0 (Kd.V (Kd.slice 3 (Kd.int .i64)) 23 wc w.heap.size (fun k_ => (w.heap.size ≤ k_) ∧ some k_ ≠ (eP : Value).ownBlock ∧ k_ ≠ ad) u4 cQ) ∧ Aside0 (wc.heap[ad]? = some (.cells #[.int .i64 ah, .int .i64 ai, (.slice (some hM) ab.length ap), (.slice ax ae.length au), (.slice aq ag.length ar), (.slice av af.length aw)] 29 (0, 0))) ∧ Aside0 (Below w.heap.size w wc))
         case first =>
          have H := qb.out; clear qb; replace H := zIn H; obtain ⟨g9, H⟩ := H; have fN : decide (2 < ((rd_L1 ab aH).length : Int)) = true := decide_eq_true g9; have oL : decide (2 < (rd_L1 ab aH).length) = true := decide_eq_true zz1n; clear g9; (first | rw [fN] | (simp only [i64_w, i32_w]; rw [fN]) | skip); by_cases ir : (rd (rd_L1 ab aH) 2) ≥ 0
          · rw [if_pos ir] at H; have ha : decide (0 ≤ (rd (rd_L1 ab aH) 2)) = true := decide_eq_true ir; clear ir; replace H := Option.bind_eq_some_iff.mp H; obtain ⟨j1, mS, H⟩ := H; have rc := zA mS; clear mS; have H' := zA H; clear H; have fo : 0 ≤ (2 : Int) := zz1n
            have fp : 2 < ((rd_L1 ab aH).length : Int) := of_decide_eq_true zz1i; obtain ⟨e2, kL, cu⟩ := Kd.at_int dn.out 2 fo fp; cases kL; (try simp only [show (2 : Int).toNat = 2 from rfl, Nat.reduceMul, Nat.reduceEqDiff, Go.Addr.add, ↓reduceIte] at cu); have qi113 : (2 < (rd_L1 ab aH).length) = True := eq_true zz1n; (try rw [zi2] at cu); replace cu := (HB.out.cell (World.block_lt_of_cell? w _ cu)).trans cu; replace fo := eq_true fo; replace fp := eq_true fp; have eE : 0 ≤ (2 : Int) := zz1n
            have eF : 2 < ((rd_L1 ab aH).length : Int) := of_decide_eq_true zz1i; obtain ⟨dv, jo, bl⟩ := Kd.at_int dn.out 2 eE eF; obtain rfl : e2 = dv := (by injection jo)
            (try simp only [show (2 : Int).toNat = 2 from rfl, Nat.reduceMul, Nat.reduceEqDiff, Go.Addr.add, ↓reduceIte] at bl); have mT : (2 < (rd_L1 ab aH).length) = True := eq_true zz1n; (try rw [zi2] at bl); replace bl := (HB.out.cell (World.block_lt_of_cell? w _ bl)).trans bl; replace eE := eq_true eE; replace eF := eq_true eF; obtain ⟨qN, qO, pz⟩ := Kd.R_slice az.out; subst pz; go_wp2_with (first | (go_at_call 63; (with_reducible refine (spec_l1Has.calls k2 _ _ aG (rd (rd_L1 ab aH) 2) j1 _ ?ak ?al rc.out).mono ?_); (case ak => repeat (first | exact (Kd.R_reads' az.out).2.2 | refine zP ?_ _ | refine zQ ?_ _ | refine zR ?_)); (case al => exact (Kd.R_reads' az.out).2.1); rintro e w' ⟨rfl, ⟨nd, rfl⟩⟩))
            go_meet
            case rel => exact ⟨_, (j1), zz16, H', ⟨zz13 bM cN⟩, ⟨zz12 az⟩, ⟨zz0w bb⟩, ⟨zz10 aa⟩, ⟨zz0p HB ac⟩⟩
          · rw [if_neg ir] at H; have ha : decide (0 ≤ (rd (rd_L1 ab aH) 2)) = false := decide_eq_false ir; clear ir; have H' := zA H; clear H; have fo : 0 ≤ (2 : Int) := zz1n
            have fp : 2 < ((rd_L1 ab aH).length : Int) := of_decide_eq_true zz1i; obtain ⟨e2, kL, cu⟩ := Kd.at_int dn.out 2 fo fp; cases kL; (try simp only [show (2 : Int).toNat = 2 from rfl, Nat.reduceMul, Nat.reduceEqDiff, Go.Addr.add, ↓reduceIte] at cu); have qi113 : (2 < (rd_L1 ab aH).length) = True := eq_true zz1n; (try rw [zi2] at cu); replace cu := (HB.out.cell (World.block_lt_of_cell? w _ cu)).trans cu; replace fo := eq_true fo; replace fp := eq_true fp; go_wp2
            go_meet
            case rel => exact ⟨_, (false), zz16, H', ⟨zz13 bM cN⟩, ⟨zz12 az⟩, ⟨zz0w bb⟩, ⟨zz10 aa⟩, ⟨zz0p HB ac⟩⟩
         case rest =>
          clear qb; (try clear c1); (try clear p1); (try clear q1); (try clear nC); (try clear rT); (try clear c2); (try clear p2); (try clear c5); (try clear c6); (try clear p6); (try clear c7); (try clear dy); (try clear c8); (try clear dY); (try clear c9); (try clear eR); (try clear e8); (try clear ju); (try clear jv); (try clear je); (try clear fG); (try clear qq); (try clear qr); (try clear mu); (try clear pA); (try clear f5); (try clear hf); (try clear gP); (try clear hL); (try clear lR); (try clear j4); (try clear g9); (try clear fN); (try clear oL); (try clear ir); (try clear ha); (try clear gf); (try clear gg); (try clear gh); (try clear gi); (try clear gj); (try clear gl); (try clear d6); (try clear d7); (try clear d8); (try clear d9); (try clear ea); (try clear eb); (try clear gS); (try clear gT); (try clear gU); (try clear gV); (try clear gW); (try clear gX); (try clear aD); (try clear dm); (try clear cu); (try clear bl); (try clear p1); (try clear ju); (try clear b9); (try clear it); (try clear fo); (try clear eE); (try clear p2); (try clear p6); (try clear q1); (try clear jv); (try clear ca); (try clear iu); (try clear fp); (try clear eF); obtain ⟨kq, jn, rfl, HA, HJ19, az, bb, aa, HB⟩ := hcut; cases kq with
          | zero => exact absurd HA.out (by simp [spec_l6Pairs.j2])
          | succ kj19 =>
           have H := HA.out; clear HA; simp only [spec_l6Pairs.j2] at H; have qc := zA H; clear H
           go_upto_if 40 with (fail)
           go_cut [4] (fun v4 wc => ∃ (kq : Nat) (gF : List (List Int)), Aside0 (spec_l6Pairs.j3 kq aG gF (rd_L1 ab aH) ab (ab.length : Int) aH = some r) ∧ Aside0 (kq ≤ kj19) ∧ Aside0 (Kd.R (Kd.int .i64) 3 wc w.heap.size (fun k_ => (w.heap.size ≤ k_)) eP aG) ∧ Aside0 (Kd.V (Kd.slice 3 (Kd.int .i64)) 23 wc w.heap.size (fun k_ => (w.heap.size ≤ k_) ∧ some k_ ≠ (eP : Value).ownBlock ∧ k_ ≠ ad) v4 gF) ∧ Aside0 (wc.heap[ad]? = some (.cells #[.int .i64 ah, .int .i64 ai, (.slice (some hM) ab.length ap), (.slice ax ae.length au), (.slice aq ag.length ar), (.slice av af.length aw)] 29 (0, 0))) ∧ Aside0 (Below w.heap.size w wc))
           case first =>
            have H := qc.out; clear qc; by_cases lW : jn = true
            · subst lW; rw [if_pos rfl] at H; replace H := zIn H; obtain ⟨gR, H⟩ := H; have hN : decide (0 < ((rd_L1 ab aH).length : Int)) = true := decide_eq_true gR; have c27b1 : decide (0 < (rd_L1 ab aH).length) = true := decide_eq_true zz1n; clear gR; (first | rw [hN] | (simp only [i64_w, i32_w]; rw [hN]) | skip); replace H := zIn H; obtain ⟨lY, H⟩ := H; have jI : decide (1 < ((rd_L1 ab aH).length : Int)) = true := decide_eq_true lY; have mU : decide (1 < (rd_L1 ab aH).length) = true := decide_eq_true zz1n; clear lY; obtain ⟨mV, e_y⟩ : ∃ y_ : List Int, y_ = (([rd (rd_L1 ab aH) 0, rd (rd_L1 ab aH) 1] : List Int)) := ⟨_, rfl⟩
              replace H : ((spec_l5Insert.f kj19 cQ mV).bind fun lO => (spec_l6Pairs.j3 kj19 aG lO (rd_L1 ab aH) ab (ab.length : Int) aH)) = some r := zz07
              have oM := zA e_y; clear e_y; replace H := Option.bind_eq_some_iff.mp H; obtain ⟨lO, j5, H⟩ := H; have qv := zA j5; clear j5; have H' := zA H; clear H; (try go_wp2); replace az := zA (zV az.out); replace bb := zA (Kd.V_drew bb.out); replace aa := zA (zJ aa.out); replace HB := zA (zD HB.out); have ei : 0 ≤ (0 : Int) := zz1n
              have ej : 0 < ((rd_L1 ab aH).length : Int) := of_decide_eq_true zz1i; obtain ⟨fL, hO, bk⟩ := Kd.at_int dn.out 0 ei ej; have bO := bk; (try rw [zi0] at bO); (try rw [show 0 * 1 = 0 from rfl] at bO); (try rw [Addr.add_zero'] at bO); cases hO; have oN : (0 < (rd_L1 ab aH).length) = True := eq_true zz1n; (try rw [zi0] at bk); (try rw [Addr.add_zero'] at bk); replace bk := (HB.out.cell (World.block_lt_of_cell? w _ bk)).trans bk; replace ei := eq_true ei; replace ej := eq_true ej; have ek : 0 ≤ (1 : Int) := zz1n
              have el : 1 < ((rd_L1 ab aH).length : Int) := of_decide_eq_true zz1i; obtain ⟨fM, hP, a6⟩ := Kd.at_int dn.out 1 ek el; have bP := a6; (try rw [zi1] at bP); (try rw [show 1 * 1 = 1 from rfl] at bP); (try simp only [Nat.reduceMul, Nat.reduceEqDiff, Go.Addr.add, ↓reduceIte] at bP); obtain rfl : fL = fM := (by injection hP)
              (try simp only [show (1 : Int).toNat = 1 from rfl, Nat.reduceMul, Nat.reduceEqDiff, Go.Addr.add, ↓reduceIte] at a6); have jO : (1 < (rd_L1 ab aH).length) = True := eq_true zz1n; (try rw [zi1] at a6); replace a6 := (HB.out.cell (World.block_lt_of_cell? w _ a6)).trans a6; replace ek := eq_true ek; replace el := eq_true el; refine start_ (n := 10) (S := fun w' => w'.cell? fL = some (.int .i64 (rd (rd_L1 ab aH) 0)) ∧ w'.cell? ⟨fL.block, fL.off + 1, none⟩ = some (.int .i64 (rd (rd_L1 ab aH) 1))) (ds := []) #[zf, zf, zf, zf, zf, zf, zf, zf, zf, zf] zz1j rfl rfl ⟨((HB.out.cell (World.block_lt_of_cell? w _ bO)).trans bO), ((HB.out.cell (World.block_lt_of_cell? w _ bP)).trans bP)⟩ (fun hHeld => ?_); refine with_tabW spec_l6Pairs.tab12 spec_l6Pairs.bits12 (fun HT_ HW_ => ?_); generalize wc.drew = sh at az bb aa HB bk a6 hHeld ⊢; refine zPu 0 41 #[zt, zf, zf, zf, zf, zf, zf, zf, zf, zf] HT_.out ?_
              refine zPu 1 42 #[zt, zt, zf, zf, zf, zf, zf, zf, zf, zf] HT_.out ?_
              refine zPu 2 43 #[zt, zt, zt, zf, zf, zf, zf, zf, zf, zf] HT_.out ?_
              refine zPu 4 45 #[zt, zt, zt, zf, zt, zf, zf, zf, zf, zf] HT_.out ?_
              refine zPu 5 46 #[zt, zt, zt, zf, zt, zt, zf, zf, zf, zf] HT_.out ?_
              refine zTk 3 44 #[zt, zt, zt, zt, zt, zt, zf, zf, zf, zf] HT_.out HW_.out hHeld ?_
              refine zTk 6 47 #[zt, zt, zt, zt, zt, zt, zt, zf, zf, zf] HT_.out HW_.out hHeld ?_
              refine one_ (i := 7) (N := some 48) #[zt, zt, zt, zt, zt, zt, zt, zt, zf, zf] rfl rfl (one_of HT_.out zz1j) zz1m (fun K hK => ?_); refine Kd.R_lit_step (Kd.int .i64) _ 3 ?hg (N := 48) ?hd (xs := ([rd (rd_L1 ab aH) 0, rd (rd_L1 ab aH) 1] : List Int)) (inner := [.int .i64 (rd (rd_L1 ab aH) 0), .int .i64 (rd (rd_L1 ab aH) 1)]) (ok := fun _ => True) (okp := fun _ => True) ?hr ?hp (fun _ hk => hk) trivial (Below.refl _ _) (Nat.le_refl _) zz1o ?_; (case hd => rfl); (case hg => rfl); (case hr => first | (go_simp; done) | (go_simp; rfl)); (case hp => exact (Reps.one (show Kd.M (Kd.int .i64) _ _ _ (rd (rd_L1 ab aH) 0) [.int .i64 (rd (rd_L1 ab aH) 0)] from rfl) (Reps.one (show Kd.M (Kd.int .i64) _ _ _ (rd (rd_L1 ab aH) 1) [.int .i64 (rd (rd_L1 ab aH) 1)] from rfl) (Reps.none _ _))))
              intro v119 w31 kM hb hg_ hnew_; clear hg_ hnew_; (first | rw [← oM.out] at kM | (simp only [Int.reduceToNat] at kM; rw [← oM.out] at kM)); replace bb := zA (Kd.V_elder' (zz0w bb) (Kd.R_base kM) hb); have h7 := zA (Kd.R_lower (Kd.R_new' (Kd.R_newM (M := fun k_ => (w.heap.size ≤ k_)) kM (zF (zz0p HB ac)) (fun k_ h_ => h_)) (Kd.R_lt (zz12 az))) (zF (zz0p HB ac))); replace az := zA (Kd.R_elder' (zz12 az) (Kd.R_base kM) hb); replace aa := zA (zMp aa.out hb); replace HB := zA (zG (zz0p HB ac) hb); clear hb kM; obtain ⟨kv, kw, lE⟩ := Kd.V_slice bb.out; (first | subst lE | (injection lE with f1_ f2_ f3_; have f4_ := f1_.symm; have f5_ := f3_.symm; clear f1_ f2_ f3_; subst f4_; subst f5_)); obtain ⟨qd, qe, re⟩ := Kd.R_slice h7.out; (first | subst re | (injection re with f1_ f2_ f3_; have f4_ := f1_.symm; have f5_ := f3_.symm; clear f1_ f2_ f3_; subst f4_; subst f5_)); refine hK.out _ _ ⟨((HB.out.cell (World.block_lt_of_cell? w _ bO)).trans bO), ((HB.out.cell (World.block_lt_of_cell? w _ bP)).trans bP)⟩ (fun hHeld => ?_); clear hK K; refine zNo 48 ?_
              refine one_ (i := 8) (N := some 49) #[zt, zt, zt, zt, zt, zt, zt, zt, zt, zf] rfl rfl (one_of HT_.out zz1j) zz1m (fun K hK => ?_); refine goes_ Try.func90 zz1j rfl #[.slice kv cQ.length kw, .slice qd mV.length qe] zz1p rfl rfl zz0i ?_; (with_reducible refine (spec_l5Insert.calls kj19 (fun k_ => (((w.heap.size ≤ k_) ∧ (some k_ ≠ (eP : Value).ownBlock ∧ k_ ≠ ad)) ∧ some k_ ≠ (.slice qd mV.length qe : Value).ownBlock)) _ _ cQ (fun k_ => some k_ = (.slice qd mV.length qe : Value).ownBlock) _ _ mV lO _ ?ak ?al qv.out).mono ?_); (case ak => exact bb.out); (case al => exact Kd.R_V (Kd.R_tight rfl (Kd.R_types (h7.out) aa.out zz1m))); rintro e rA ⟨v122, rfl, b7, hb⟩; refine ⟨_, rfl, ?_⟩; replace bb := zA (Kd.V_below (zz0w bb) hb); have gE := zA (Kd.V_lower (Kd.V_mono (ok' := fun k_ => (w.heap.size ≤ k_) ∧ some k_ ≠ (eP : Value).ownBlock ∧ k_ ≠ ad) b7 (fun k_ hk_ => ⟨Or.elim hk_ (fun hs_ => Or.elim hs_ (fun hs_ => hs_.1.1) (fun hs_ => ((Kd.R_types (h7.out) aa.out zz1m).1 k_ hs_.symm).1.1.1)) (fun hn_ => (Nat.le_trans (zF (zz0p HB ac)) hn_)), Or.elim hk_ (fun hs_ => Or.elim hs_ (fun hs_ => hs_.1.2.1) (fun hs_ => ((Kd.R_types (h7.out) aa.out zz1m).1 k_ hs_.symm).1.2)) (fun hn_ => (Kd.fresh' (Kd.R_lt (zz12 az)) k_ hn_)), Or.elim hk_ (fun hs_ => Or.elim hs_ (fun hs_ => hs_.1.2.2) (fun hs_ => ((Kd.R_types (h7.out) aa.out zz1m).1 k_ hs_.symm).2)) (fun hn_ => (Kd.freshB (g := ad) (o := .cells #[.int .i64 ah, .int .i64 ai, .slice (some hM) ab.length ap, .slice ax ae.length au, .slice aq ag.length ar, .slice av af.length aw] 29 (0, 0)) (zz10 aa) k_ hn_))⟩)) (zF (zz0p HB ac))); replace az := zA (Kd.R_below (zz12 az) hb); replace h7 := zA (Kd.R_below (zz12 h7) hb); replace aa := zA (zMp aa.out hb); replace HB := zA (zG (zz0p HB ac) hb); (try clear hb); (try clear hb2); (try clear hk); (try clear hi); (try clear b7); refine hK.out _ _ ⟨((HB.out.cell (World.block_lt_of_cell? w _ bO)).trans bO), ((HB.out.cell (World.block_lt_of_cell? w _ bP)).trans bP)⟩ (fun hHeld => ?_); clear hK K; refine zNo 49 ?_
              refine zPu 9 4 #[zt, zt, zt, zt, zt, zt, zt, zt, zt, zt] HT_.out ?_
              refine done_ (done_of HT_.out zz1j) ?_; try go_wp2
              go_meet
              case rel => exact ⟨_, (lO), H', ⟨by have := bM.out; have := cN.out; have := HJ19.out; first | omega | exact Nat.le_refl _⟩, ⟨zz0s az⟩, ⟨zz0w gE⟩, ⟨zz10 aa⟩, ⟨zz0p HB ac⟩⟩
            · replace lW := Bool.eq_false_iff.mpr lW; subst lW; rw [if_neg zFt] at H; have H' := zA H; clear H; go_wp2
              go_meet
              case rel => exact ⟨_, (cQ), H', ⟨by have := bM.out; have := cN.out; have := HJ19.out; first | omega | exact Nat.le_refl _⟩, ⟨zz12 az⟩, ⟨zz0w bb⟩, ⟨zz10 aa⟩, ⟨zz0p HB ac⟩⟩
           case rest =>
            clear qc; (try clear c1); (try clear p1); (try clear q1); (try clear nC); (try clear rT); (try clear c2); (try clear p2); (try clear c5); (try clear c6); (try clear p6); (try clear c7); (try clear dy); (try clear c8); (try clear dY); (try clear c9); (try clear eR); (try clear e8); (try clear ju); (try clear jv); (try clear je); (try clear fG); (try clear qq); (try clear qr); (try clear mu); (try clear pA); (try clear f5); (try clear hf); (try clear gP); (try clear hL); (try clear lR); (try clear j4); (try clear g9); (try clear fN); (try clear oL); (try clear ir); (try clear ha); (try clear lW); (try clear gR); (try clear hN); (try clear c27b1); (try clear lY); (try clear jI); (try clear mU); (try clear gf); (try clear gg); (try clear gh); (try clear gi); (try clear gj); (try clear gl); (try clear d6); (try clear d7); (try clear d8); (try clear d9); (try clear ea); (try clear eb); (try clear gS); (try clear gT); (try clear gU); (try clear gV); (try clear gW); (try clear gX); (try clear aD); (try clear dm); (try clear cu); (try clear bl); (try clear bk); (try clear a6); (try clear p1); (try clear ju); (try clear b9); (try clear qq); (try clear it); (try clear fo); (try clear eE); (try clear ei); (try clear ek); (try clear p2); (try clear p6); (try clear q1); (try clear jv); (try clear ca); (try clear qr); (try clear iu); (try clear fp); (try clear eF); (try clear ej); (try clear el); obtain ⟨kq, gF, HA, HJ24, az, bb, aa, HB⟩ := hcut; cases kq with
            | zero => exact absurd HA.out (by simp [spec_l6Pairs.j3])
            | succ kj24 =>
             have H := HA.out; clear HA; simp only [spec_l6Pairs.j3] at H; replace H := zIn H; obtain ⟨np, H⟩ := H; have c36b0 : decide (1 < ((rd_L1 ab aH).length : Int)) = true := decide_eq_true np; have c36b1 : decide (1 < (rd_L1 ab aH).length) = true := decide_eq_true zz1n; clear np; by_cases ke : (rd (rd_L1 ab aH) 1) ≥ 0
             · rw [if_pos ke] at H; have c37b0 : decide (0 ≤ (rd (rd_L1 ab aH) 1)) = true := decide_eq_true ke; clear ke; replace H := Option.bind_eq_some_iff.mp H; obtain ⟨qa, rf, H⟩ := H; have sw := zA rf; clear rf; by_cases pJ : qa = true
               · subst pJ; rw [if_pos rfl] at H; replace H := zIn H; obtain ⟨rb, H⟩ := H; have c40b0 : decide (0 < ((rd_L1 ab aH).length : Int)) = true := decide_eq_true rb; have c40b1 : decide (0 < (rd_L1 ab aH).length) = true := decide_eq_true zz1n; clear rb; replace H := zIn H; obtain ⟨sx, H⟩ := H; have c41b0 : decide (2 < ((rd_L1 ab aH).length : Int)) = true := decide_eq_true sx; have c41b1 : decide (2 < (rd_L1 ab aH).length) = true := decide_eq_true zz1n; clear sx; obtain ⟨mW, e_y⟩ : ∃ y_ : List Int, y_ = (([rd (rd_L1 ab aH) 0, rd (rd_L1 ab aH) 2] : List Int)) := ⟨_, rfl⟩
                 replace H : ((spec_l5Insert.f kj24 gF mW).bind fun lP => (spec_l6Pairs.l1 kj24 aG lP ab (ab.length : Int) (wrap64 (aH + 1)))) = some r := zz07
                 have oO := zA e_y; clear e_y; replace H := Option.bind_eq_some_iff.mp H; obtain ⟨lP, mX, H⟩ := H; have r8 := zA mX; clear mX; have H' := zA H; clear H; have h8 : 0 ≤ (1 : Int) := zz1n
                 have h9 : 1 < ((rd_L1 ab aH).length : Int) := of_decide_eq_true zz1i; obtain ⟨gG, mY, cE⟩ := Kd.at_int dn.out 1 h8 h9; cases mY; (try simp only [show (1 : Int).toNat = 1 from rfl, Nat.reduceMul, Nat.reduceEqDiff, Go.Addr.add, ↓reduceIte] at cE); have oP : (1 < (rd_L1 ab aH).length) = True := eq_true zz1n; (try rw [zi1] at cE); replace cE := (HB.out.cell (World.block_lt_of_cell? w _ cE)).trans cE; replace h8 := eq_true h8; replace h9 := eq_true h9; have kN : 0 ≤ (1 : Int) := zz1n
                 have kO : 1 < ((rd_L1 ab aH).length : Int) := of_decide_eq_true zz1i; obtain ⟨mZ, qf, dE⟩ := Kd.at_int dn.out 1 kN kO; obtain rfl : gG = mZ := (by injection qf)
                 (try simp only [show (1 : Int).toNat = 1 from rfl, Nat.reduceMul, Nat.reduceEqDiff, Go.Addr.add, ↓reduceIte] at dE); have qi125 : (1 < (rd_L1 ab aH).length) = True := eq_true zz1n; (try rw [zi1] at dE); replace dE := (HB.out.cell (World.block_lt_of_cell? w _ dE)).trans dE; replace kN := eq_true kN; replace kO := eq_true kO; obtain ⟨nR, nS, eo43⟩ := Kd.R_slice az.out; subst eo43; (try go_wp2_with (first | (go_at_call 63; (with_reducible refine (spec_l1Has.calls kj24 _ _ aG (rd (rd_L1 ab aH) 1) true _ ?ak ?al sw.out).mono ?_); (case ak => repeat (first | exact (Kd.R_reads' az.out).2.2 | refine zP ?_ _ | refine zQ ?_ _ | refine zR ?_)); (case al => exact (Kd.R_reads' az.out).2.1); rintro e w' ⟨rfl, ⟨nd, rfl⟩⟩))); (try (rw [drewN_self wc]; generalize hq_ : World.drewN wc _ = wc; have g2 : Aside0 (Kd.R (Kd.int .i64) 3 wc w.heap.size (fun k_ => (w.heap.size ≤ k_)) (.slice nR aG.length nS) aG) := ⟨by rw [← hq_]; exact (zz12 az)⟩; have g3 : Aside0 (Kd.V (Kd.slice 3 (Kd.int .i64)) 23 wc w.heap.size (fun k_ => (w.heap.size ≤ k_) ∧ some k_ ≠ (.slice nR aG.length nS : Value).ownBlock ∧ k_ ≠ ad) u4 gF) := ⟨by rw [← hq_]; exact (zz0w bb)⟩; have g4 : Aside0 (wc.heap[ad]? = some (.cells #[.int .i64 ah, .int .i64 ai, .slice (some hM) ab.length ap, .slice ax ae.length au, .slice aq ag.length ar, .slice av af.length aw] 29 (0, 0))) := ⟨by rw [← hq_]; exact (zz10 aa)⟩; have g5 : Aside0 (Below w.heap.size w wc) := ⟨by rw [← hq_]; exact (zz0p HB ac)⟩; clear az bb aa HB hq_; have az := g2; have bb := g3; have aa := g4; have HB := g5; clear g2 g3 g4 g5)); replace az := zA (zV az.out); replace bb := zA (Kd.V_drew bb.out); replace aa := zA (zJ aa.out); replace HB := zA (zD HB.out); have qg : 0 ≤ (0 : Int) := zz1n
                 have qh : 0 < ((rd_L1 ab aH).length : Int) := of_decide_eq_true zz1i; obtain ⟨ad127, e127, fq⟩ := Kd.at_int dn.out 0 qg qh; have en := fq; (try rw [zi0] at en); (try rw [show 0 * 1 = 0 from rfl] at en); (try rw [Addr.add_zero'] at en); obtain rfl : gG = ad127 := (by injection e127)
                 have qi127 : (0 < (rd_L1 ab aH).length) = True := eq_true zz1n; (try rw [zi0] at fq); (try rw [Addr.add_zero'] at fq); replace fq := (HB.out.cell (World.block_lt_of_cell? w _ fq)).trans fq; replace qg := eq_true qg; replace qh := eq_true qh; have qi : 0 ≤ (2 : Int) := zz1n
                 have qj : 2 < ((rd_L1 ab aH).length : Int) := of_decide_eq_true zz1i; obtain ⟨ad128, e128, fr⟩ := Kd.at_int dn.out 2 qi qj; have eo := fr; (try rw [zi2] at eo); (try rw [show 2 * 1 = 2 from rfl] at eo); (try simp only [Nat.reduceMul, Nat.reduceEqDiff, Go.Addr.add, ↓reduceIte] at eo); obtain rfl : gG = ad128 := (by injection e128)
                 (try simp only [show (2 : Int).toNat = 2 from rfl, Nat.reduceMul, Nat.reduceEqDiff, Go.Addr.add, ↓reduceIte] at fr); have qi128 : (2 < (rd_L1 ab aH).length) = True := eq_true zz1n; (try rw [zi2] at fr); replace fr := (HB.out.cell (World.block_lt_of_cell? w _ fr)).trans fr; replace qi := eq_true qi; replace qj := eq_true qj; refine start_ (n := 10) (S := fun w' => w'.cell? gG = some (.int .i64 (rd (rd_L1 ab aH) 0)) ∧ w'.cell? ⟨gG.block, gG.off + 2, none⟩ = some (.int .i64 (rd (rd_L1 ab aH) 2))) (ds := []) #[zf, zf, zf, zf, zf, zf, zf, zf, zf, zf] zz1j rfl rfl ⟨((HB.out.cell (World.block_lt_of_cell? w _ en)).trans en), ((HB.out.cell (World.block_lt_of_cell? w _ eo)).trans eo)⟩ (fun hHeld => ?_); refine with_tabW spec_l6Pairs.tab14 spec_l6Pairs.bits14 (fun HT_ HW_ => ?_); generalize wc.drew = w44 at az bb aa HB fq fr hHeld ⊢; refine zPu 0 61 #[zt, zf, zf, zf, zf, zf, zf, zf, zf, zf] HT_.out ?_
                 refine zPu 1 62 #[zt, zt, zf, zf, zf, zf, zf, zf, zf, zf] HT_.out ?_
                 refine zPu 2 63 #[zt, zt, zt, zf, zf, zf, zf, zf, zf, zf] HT_.out ?_
                 refine zPu 4 65 #[zt, zt, zt, zf, zt, zf, zf, zf, zf, zf] HT_.out ?_
                 refine zPu 5 66 #[zt, zt, zt, zf, zt, zt, zf, zf, zf, zf] HT_.out ?_
                 refine zTk 3 64 #[zt, zt, zt, zt, zt, zt, zf, zf, zf, zf] HT_.out HW_.out hHeld ?_
                 refine zTk 6 67 #[zt, zt, zt, zt, zt, zt, zt, zf, zf, zf] HT_.out HW_.out hHeld ?_
                 refine one_ (i := 7) (N := some 68) #[zt, zt, zt, zt, zt, zt, zt, zt, zf, zf] rfl rfl (one_of HT_.out zz1j) zz1m (fun K hK => ?_); refine Kd.R_lit_step (Kd.int .i64) _ 3 ?hg (N := 68) ?hd (xs := ([rd (rd_L1 ab aH) 0, rd (rd_L1 ab aH) 2] : List Int)) (inner := [.int .i64 (rd (rd_L1 ab aH) 0), .int .i64 (rd (rd_L1 ab aH) 2)]) (ok := fun _ => True) (okp := fun _ => True) ?hr ?hp (fun _ hk => hk) trivial (Below.refl _ _) (Nat.le_refl _) zz1o ?_; (case hd => rfl); (case hg => rfl); (case hr => first | (go_simp; done) | (go_simp; rfl)); (case hp => exact (Reps.one (show Kd.M (Kd.int .i64) _ _ _ (rd (rd_L1 ab aH) 0) [.int .i64 (rd (rd_L1 ab aH) 0)] from rfl) (Reps.one (show Kd.M (Kd.int .i64) _ _ _ (rd (rd_L1 ab aH) 2) [.int .i64 (rd (rd_L1 ab aH) 2)] from rfl) (Reps.none _ _))))
                 intro v130 w45 kP hb hg_ hnew_; clear hg_ hnew_; (first | rw [← oO.out] at kP | (simp only [Int.reduceToNat] at kP; rw [← oO.out] at kP)); replace bb := zA (Kd.V_elder' (zz0w bb) (Kd.R_base kP) hb); have ia := zA (Kd.R_lower (Kd.R_new' (Kd.R_newM (M := fun k_ => (w.heap.size ≤ k_)) kP (zF (zz0p HB ac)) (fun k_ h_ => h_)) (Kd.R_lt (zz12 az))) (zF (zz0p HB ac))); replace az := zA (Kd.R_elder' (zz12 az) (Kd.R_base kP) hb); replace aa := zA (zMp aa.out hb); replace HB := zA (zG (zz0p HB ac) hb); clear hb kP; obtain ⟨Ao47, co47, rg⟩ := Kd.V_slice bb.out; (first | subst rg | (injection rg with f1_ f2_ f3_; have f4_ := f1_.symm; have f5_ := f3_.symm; clear f1_ f2_ f3_; subst f4_; subst f5_)); obtain ⟨jY, jZ, nP⟩ := Kd.R_slice ia.out; (first | subst nP | (injection nP with f1_ f2_ f3_; have f4_ := f1_.symm; have f5_ := f3_.symm; clear f1_ f2_ f3_; subst f4_; subst f5_)); refine hK.out _ _ ⟨((HB.out.cell (World.block_lt_of_cell? w _ en)).trans en), ((HB.out.cell (World.block_lt_of_cell? w _ eo)).trans eo)⟩ (fun hHeld => ?_); clear hK K; refine zNo 68 ?_
                 refine one_ (i := 8) (N := some 69) #[zt, zt, zt, zt, zt, zt, zt, zt, zt, zf] rfl rfl (one_of HT_.out zz1j) zz1m (fun K hK => ?_); refine goes_ Try.func90 zz1j rfl #[.slice Ao47 gF.length co47, .slice jY mW.length jZ] zz1p rfl rfl zz0i ?_; (with_reducible refine (spec_l5Insert.calls kj24 (fun k_ => (((w.heap.size ≤ k_) ∧ (some k_ ≠ (.slice nR aG.length nS : Value).ownBlock ∧ k_ ≠ ad)) ∧ some k_ ≠ (.slice jY mW.length jZ : Value).ownBlock)) _ _ gF (fun k_ => some k_ = (.slice jY mW.length jZ : Value).ownBlock) _ _ mW lP _ ?ak ?al r8.out).mono ?_); (case ak => exact bb.out); (case al => exact Kd.R_V (Kd.R_tight rfl (Kd.R_types (ia.out) aa.out zz1m))); rintro e w49 ⟨v133, rfl, b7, hb⟩; refine ⟨_, rfl, ?_⟩; replace bb := zA (Kd.V_below (zz0w bb) hb); have HO134 := zA (Kd.V_lower (Kd.V_mono (ok' := fun k_ => (w.heap.size ≤ k_) ∧ some k_ ≠ (.slice nR aG.length nS : Value).ownBlock ∧ k_ ≠ ad) b7 (fun k_ hk_ => ⟨Or.elim hk_ (fun hs_ => Or.elim hs_ (fun hs_ => hs_.1.1) (fun hs_ => ((Kd.R_types (ia.out) aa.out zz1m).1 k_ hs_.symm).1.1.1)) (fun hn_ => (Nat.le_trans (zF (zz0p HB ac)) hn_)), Or.elim hk_ (fun hs_ => Or.elim hs_ (fun hs_ => hs_.1.2.1) (fun hs_ => ((Kd.R_types (ia.out) aa.out zz1m).1 k_ hs_.symm).1.2)) (fun hn_ => (Kd.fresh' (Kd.R_lt (zz12 az)) k_ hn_)), Or.elim hk_ (fun hs_ => Or.elim hs_ (fun hs_ => hs_.1.2.2) (fun hs_ => ((Kd.R_types (ia.out) aa.out zz1m).1 k_ hs_.symm).2)) (fun hn_ => (Kd.freshB (g := ad) (o := .cells #[.int .i64 ah, .int .i64 ai, .slice (some hM) ab.length ap, .slice ax ae.length au, .slice aq ag.length ar, .slice av af.length aw] 29 (0, 0)) (zz10 aa) k_ hn_))⟩)) (zF (zz0p HB ac))); replace az := zA (Kd.R_below (zz12 az) hb); replace ia := zA (Kd.R_below (zz12 ia) hb); replace aa := zA (zMp aa.out hb); replace HB := zA (zG (zz0p HB ac) hb); (try clear hb); (try clear hb2); (try clear hk); (try clear hi); (try clear b7); refine hK.out _ _ ⟨((HB.out.cell (World.block_lt_of_cell? w _ en)).trans en), ((HB.out.cell (World.block_lt_of_cell? w _ eo)).trans eo)⟩ (fun hHeld => ?_); clear hK K; refine zNo 69 ?_
                 refine zPu 9 4 #[zt, zt, zt, zt, zt, zt, zt, zt, zt, zt] HT_.out ?_
                 refine done_ (done_of HT_.out zz1j) ?_; try go_wp2
                 go_roundg kj24
                 case measure => have := bM.out; have := cN.out; have := HJ19.out; have := HJ24.out; omega
                 case rel => exact ⟨(lP), (wrap64 (aH + 1)), zz16, H', ⟨by have := bM.out; have := cN.out; have := HJ19.out; have := HJ24.out; omega⟩, ⟨zz0s az⟩, ⟨zz0w HO134⟩, ⟨zz10 aa⟩, ⟨zz0p HB ac⟩⟩
               · replace pJ := Bool.eq_false_iff.mpr pJ; subst pJ; rw [if_neg zFt] at H; have H' := zA H; clear H; have h8 : 0 ≤ (1 : Int) := zz1n
                 have h9 : 1 < ((rd_L1 ab aH).length : Int) := of_decide_eq_true zz1i; obtain ⟨gG, mY, cE⟩ := Kd.at_int dn.out 1 h8 h9; cases mY; (try simp only [show (1 : Int).toNat = 1 from rfl, Nat.reduceMul, Nat.reduceEqDiff, Go.Addr.add, ↓reduceIte] at cE); have oP : (1 < (rd_L1 ab aH).length) = True := eq_true zz1n; (try rw [zi1] at cE); replace cE := (HB.out.cell (World.block_lt_of_cell? w _ cE)).trans cE; replace h8 := eq_true h8; replace h9 := eq_true h9; have kN : 0 ≤ (1 : Int) := zz1n
                 have kO : 1 < ((rd_L1 ab aH).length : Int) := of_decide_eq_true zz1i; obtain ⟨mZ, qf, dE⟩ := Kd.at_int dn.out 1 kN kO; obtain rfl : gG = mZ := (by injection qf)
                 (try simp only [show (1 : Int).toNat = 1 from rfl, Nat.reduceMul, Nat.reduceEqDiff, Go.Addr.add, ↓reduceIte] at dE); have qi125 : (1 < (rd_L1 ab aH).length) = True := eq_true zz1n; (try rw [zi1] at dE); replace dE := (HB.out.cell (World.block_lt_of_cell? w _ dE)).trans dE; replace kN := eq_true kN; replace kO := eq_true kO; obtain ⟨pQ, pR, nL⟩ := Kd.R_slice az.out; subst nL; go_wp2_with (first | (go_at_call 63; (with_reducible refine (spec_l1Has.calls kj24 _ _ aG (rd (rd_L1 ab aH) 1) false _ ?ak ?al sw.out).mono ?_); (case ak => repeat (first | exact (Kd.R_reads' az.out).2.2 | refine zP ?_ _ | refine zQ ?_ _ | refine zR ?_)); (case al => exact (Kd.R_reads' az.out).2.1); rintro e w' ⟨rfl, ⟨nd, rfl⟩⟩))
                 go_roundg kj24
                 case measure => have := bM.out; have := cN.out; have := HJ19.out; have := HJ24.out; omega
                 case rel => exact ⟨(gF), (wrap64 (aH + 1)), zz16, H', ⟨by have := bM.out; have := cN.out; have := HJ19.out; have := HJ24.out; omega⟩, ⟨zz12 az⟩, ⟨zz0w bb⟩, ⟨zz10 aa⟩, ⟨zz0p HB ac⟩⟩
             · rw [if_neg ke] at H; have c37b0 : decide (0 ≤ (rd (rd_L1 ab aH) 1)) = false := decide_eq_false ke; clear ke; have H' := zA H; clear H; have h8 : 0 ≤ (1 : Int) := zz1n
               have h9 : 1 < ((rd_L1 ab aH).length : Int) := of_decide_eq_true zz1i; obtain ⟨gG, mY, cE⟩ := Kd.at_int dn.out 1 h8 h9; cases mY; (try simp only [show (1 : Int).toNat = 1 from rfl, Nat.reduceMul, Nat.reduceEqDiff, Go.Addr.add, ↓reduceIte] at cE); have oP : (1 < (rd_L1 ab aH).length) = True := eq_true zz1n; (try rw [zi1] at cE); replace cE := (HB.out.cell (World.block_lt_of_cell? w _ cE)).trans cE; replace h8 := eq_true h8; replace h9 := eq_true h9; go_wp2
               go_roundg kj24
               case measure => have := bM.out; have := cN.out; have := HJ19.out; have := HJ24.out; omega
               case rel => exact ⟨(gF), (wrap64 (aH + 1)), zz16, H', ⟨by have := bM.out; have := cN.out; have := HJ19.out; have := HJ24.out; omega⟩, ⟨zz12 az⟩, ⟨zz0w bb⟩, ⟨zz10 aa⟩, ⟨zz0p HB ac⟩⟩
       · rw [if_neg f5] at H; have hf := decide_eq_false f5; clear f5; obtain rfl := Option.some.inj H; go_wp2; go_ret; exact ⟨_, zz0z, by (with_reducible repeat (first | apply Kd.V_alloc | apply Kd.V_drewN | apply Kd.V_drew)); exact Kd.V_mono bb.out (fun _ hk => hk.1), zz0p HB ac⟩
end Go.Proofs.Ytkocahlifffgjaa.P
namespace Go.Proofs.Ytkocahlifffgjaa.P
open Go.RowKit Go.Proofs.YtkocahlifffgjaaW.PrintWords
set_option linter.unusedVariables false
set_option linter.unusedSimpArgs false
theorem l1SameR_loop (a b : List Int) (hl : a.length = b.length) (hb : a.length ≤ 9223372036854775807) (d : Nat) : ∀ (k i : Nat), i ≤ a.length → a.length - i = d → d < k →
 spec_l1Same.l0 k a b a.length i = some (decide (a.drop i = b.drop i)) := by
 induction d with
 | zero =>
  intro k i h1 hd hk; obtain ⟨k, rfl⟩ : ∃ m, k = m + 1 := ⟨k - 1, zz1n⟩
  simp only [spec_l1Same.l0]; rw [if_neg zz1n]; rw [List.drop_of_length_le zz1n, List.drop_of_length_le zz1n]; simp
 | succ d ih =>
  intro k i h1 hd hk; obtain ⟨k, rfl⟩ : ∃ m, k = m + 1 := ⟨k - 1, zz1n⟩
  simp only [spec_l1Same.l0]; rw [if_pos zz1n, if_pos zz1n, if_pos zz1n, if_pos zz1n]; have hw : wrap64 ((i : Int) + 1) = ((i + 1 : Nat) : Int) := by unfold wrap64; omega
  have ea : a.drop i = rd a i :: a.drop (i + 1) := getD_drop a i 0 zz1n; have eb : b.drop i = rd b i :: b.drop (i + 1) := getD_drop b i 0 zz1n; by_cases he : rd a i = rd b i
  · rw [if_pos he, hw, ih k (i + 1) zz1n zz1n zz1n, ea, eb, he]; congr 1; simp
  · rw [if_neg he, ea, eb]; simp [he]
theorem l1SameR_eq (a b : List Int) (hb : a.length ≤ 9223372036854775807) : ∀ k, a.length < k → spec_l1Same.f k a b = some (decide (a = b)) := by
 intro k hk; unfold spec_l1Same.f; by_cases hl : a.length = b.length
 · rw [if_pos zz1n]; have := l1SameR_loop a b hl hb a.length k 0 zz1n zz1n hk; simpa using this
 · rw [if_neg zz1n]; have : a ≠ b := fun h => hl (by rw [h])
   simp [this]
theorem decide_cmp (x y : Int) (us vs : List Int) : decide (cmpL (x :: us) (y :: vs) < 0) = (if x = y then decide (cmpL us vs < 0) else decide (x < y)) := by
 by_cases c : x = y
 · rw [if_pos c]; exact decide_eq_decide.2 (by simp only [cmpL]; rw [if_neg zz1n, if_neg zz1n])
 · rw [if_neg c]; refine decide_eq_decide.2 ?_; simp only [cmpL]; by_cases c2 : x < y
   · rw [if_pos c2]; simp [c2]
   · rw [if_neg c2, if_pos zz1n]; simp [c2]
theorem less_loop (a b : List Int) (hl : a.length = b.length) (hb : a.length ≤ 9223372036854775807) (d : Nat) : ∀ (k i : Nat), i ≤ a.length → a.length - i = d → d < k →
 spec_l5Less.l0 k a b a.length i = some (decide (cmpL (a.drop i) (b.drop i) < 0)) := by
 induction d with
 | zero =>
  intro k i h1 hd hk; obtain ⟨k, rfl⟩ : ∃ m, k = m + 1 := ⟨k - 1, zz1n⟩
  simp only [spec_l5Less.l0]; rw [if_neg zz1n, List.drop_of_length_le zz1n, List.drop_of_length_le zz1n]; rfl
 | succ d ih =>
  intro k i h1 hd hk; obtain ⟨k, rfl⟩ : ∃ m, k = m + 1 := ⟨k - 1, zz1n⟩
  have ea : a.drop i = rd a i :: a.drop (i + 1) := getD_drop a i 0 zz1n; have eb : b.drop i = rd b i :: b.drop (i + 1) := getD_drop b i 0 zz1n; simp only [spec_l5Less.l0]; rw [if_pos zz1n, if_pos zz1n, if_pos zz1n, if_pos zz1n, ea, eb, decide_cmp]; by_cases c : rd a i = rd b i
  · rw [if_pos c, if_pos c, wsuccL (show i < a.length by omega) hb, ih k (i + 1) zz1n zz1n zz1n]
  · rw [if_neg c, if_neg c]
theorem less_eq (a b : List Int) (hl : a.length = b.length) (hb : a.length ≤ 9223372036854775807) (k : Nat) (hk : a.length < k) : spec_l5Less.f k a b = some (decide (cmpL a b < 0)) := by
 unfold spec_l5Less.f; have := less_loop a b hl hb a.length k 0 zz1n zz1n hk; rwa [show ((0 : Nat) : Int) = 0 from rfl, List.drop_zero, List.drop_zero] at this
theorem putL_old {l : List (List Int)} {x : List Int} (hu : UpL l) (hx : x ∈ l) : putL l x = l := upL_ext (upL_put l x hu) hu fun y => (mem_putL l x y).trans ⟨fun h => h.elim (fun e => by rw [e]; exact hx) id, .inr⟩
theorem putL_mid {l : List (List Int)} {x : List Int} (hu : UpL l) (i : Nat) (h1 : ∀ a, a ∈ l.take i → cmpL a x < 0) (h2 : ∀ b, b ∈ l.drop i → cmpL x b < 0) : putL l x = l.take i ++ [x] ++ l.drop i := by
 refine upL_ext (upL_put l x hu) ?_ fun y => ?_
 · unfold UpL at hu ⊢; rw [← List.take_append_drop i l, List.pairwise_append] at hu; rw [List.append_assoc, List.pairwise_append]; refine ⟨hu.1, List.pairwise_cons.2 ⟨h2, hu.2.1⟩, fun a ha b hb => ?_⟩; rcases List.mem_cons.1 hb with e | e
   · rw [e]; exact h1 a ha
   · exact hu.2.2 a ha b e
 · rw [mem_putL, List.append_assoc, List.mem_append, List.singleton_append, List.mem_cons]; have : y ∈ l ↔ y ∈ l.take i ∨ y ∈ l.drop i := by rw [← List.mem_append, List.take_append_drop]
   rw [this]; exact ⟨fun h => h.elim (fun e => .inr (.inl e)) (fun h => h.elim .inl (fun h => .inr (.inr h))), fun h => h.elim (fun h => .inr (.inl h)) (fun h => h.elim .inl (fun h => .inr (.inr h)))⟩
theorem insert_loop (l : List (List Int)) (x : List Int) (m : Nat) (hm : m ≤ 1048576) (hx : x.length = m) (hlm : ∀ y, y ∈ l → y.length = m) (hu : UpL l) (hl : l.length + 1 < 5864062014805) (i : Nat) : ∀ (k : Nat), i ≤ l.length → (∀ b, b ∈ l.drop i → cmpL x b < 0) → i + m + 1 < k →
 spec_l5Insert.l0 k l x i = some (putL l x) := by
 have fin : ∀ i : Nat, i ≤ l.length → ((l.take i) ++ [x] ++ l.drop i).length = l.length + 1 := fun i hi => by simp only [List.length_append, List.length_take, List.length_drop, List.length_cons, List.length_nil]; omega
 induction i with
 | zero =>
  intro k h1 hb hk; obtain ⟨k, rfl⟩ : ∃ m, k = m + 1 := ⟨k - 1, zz1n⟩
  have e := putL_mid hu 0 (fun a ha => by rw [List.take_zero] at ha; cases ha) hb; simp only [spec_l5Insert.l0]; rw [if_neg zz1n]; simp only [Option.bind_some]; rw [if_pos zz1n, if_pos zz1n]; simp only [List.length_nil, List.nil_append, show ((0 : Nat) : Int).toNat = 0 from rfl, List.drop_zero, List.take_zero, List.length_cons]; rw [if_pos zz1n, if_pos zz1n, if_pos zz1n, if_pos zz1n, e]; simp
 | succ i ih =>
  intro k h1 hb hk; obtain ⟨k, rfl⟩ : ∃ m, k = m + 1 := ⟨k - 1, zz1n⟩
  have e1 : wrap64 (((i + 1 : Nat) : Int) - 1) = (i : Int) := by unfold wrap64; omega
  have hil : i < l.length := by omega
  have ed : l.drop i = rd_L1 l i :: l.drop (i + 1) := getD_drop l i [] hil; have hmem : rd_L1 l i ∈ l := by unfold rd_L1; rw [Int.toNat_natCast, List.getD_eq_getElem?_getD, List.getElem?_eq_getElem hil]; exact List.getElem_mem hil
  have hyl := hlm _ hmem; have hN := ih k zz1n; have hlt : ∀ a, a ∈ l.take i → cmpL a (rd_L1 l i) < 0 := by
   intro a ha; have := hu; unfold UpL at this; rw [← List.take_append_drop i l, List.pairwise_append, ed] at this; exact this.2.2 a ha _ List.mem_cons_self
  have et : l.take (i + 1) = l.take i ++ [rd_L1 l i] := take_getD l i [] hil; obtain ⟨y, hy⟩ : ∃ y, y = rd_L1 l i := ⟨_, rfl⟩
  rw [← hy] at ed hmem hyl hlt et; simp only [spec_l5Insert.l0]; rw [if_pos zz1n, e1, if_pos zz1n, if_pos zz1n, ← hy, less_eq x y zz1n zz1n k zz1n]; simp only [Option.bind_some]; by_cases c : cmpL x y < 0
  · rw [if_pos (decide_eq_true c)]; exact hN (fun b hb2 => by
     rw [ed] at hb2; rcases List.mem_cons.1 hb2 with e | e
     · rw [e]; exact c
     · exact hb b e) zz1n
  · rw [if_neg (by rw [decide_eq_false c]; decide), l1SameR_eq y x zz1n k zz1n]; simp only [Option.bind_some]; by_cases c2 : y = x
    · rw [if_pos (decide_eq_true c2), putL_old hu (c2 ▸ hmem)]
    · rw [if_neg (by rw [decide_eq_false c2]; decide), if_pos zz1n, if_pos zz1n]; have e := putL_mid hu (i + 1) (fun a ha => by
       rw [et] at ha; have hyx : cmpL y x < 0 := cmpL_flip c (fun e => c2 e.symm); rcases List.mem_append.1 ha with h | h
       · exact cmpL_trans _ _ _ (hlt a h) hyx
       · rw [List.mem_singleton.1 h]; exact hyx) hb
      have hl1 : (l.take (i + 1)).length = i + 1 := by rw [List.length_take]; omega
      have hl2 : (l.drop (i + 1)).length = l.length - (i + 1) := List.length_drop; simp only [List.length_nil, List.nil_append, Int.toNat_natCast, List.length_append, List.length_cons, hl1, hl2]; rw [if_pos zz1n, if_pos zz1n, if_pos zz1n, if_pos zz1n, e]
theorem insert_eq (l : List (List Int)) (x : List Int) (m : Nat) (hm : m ≤ 1048576) (hx : x.length = m) (hlm : ∀ y, y ∈ l → y.length = m) (hu : UpL l) (hl : l.length + 1 < 5864062014805) (k : Nat) (hk : l.length + m + 1 < k) : spec_l5Insert.f k l x = some (putL l x) := by
 unfold spec_l5Insert.f; exact insert_loop l x m hm hx hlm hu hl l.length k (Nat.le_refl _) (fun b hb => by rw [List.drop_of_length_le (Nat.le_refl _)] at hb; cases hb) hk
theorem putL_len (l : List (List Int)) (n : List Int) : (putL l n).length ≤ l.length + 1 := by
 induction l with
 | nil => simp [putL]
 | cons a l ih =>
  simp only [putL]
  split
  · simp; omega
  · split <;> simp
structure PutI (out raw : List (List Int)) : Prop where
 up : UpL out
 two : ∀ y, y ∈ out → y.length = 2
 mem : ∀ y, y ∈ out ↔ y ∈ raw
 len : out.length ≤ raw.length
theorem PutI.put {out raw : List (List Int)} (h : PutI out raw) {x : List Int} (hx : x.length = 2) : PutI (putL out x) (raw ++ [x]) :=
 ⟨upL_put _ _ h.up, fun y hy => by rcases (mem_putL _ _ _).1 hy with e | e; · rw [e]; exact hx
                                   · exact h.two y e, fun y => by rw [mem_putL, List.mem_append, List.mem_singleton, h.mem]; exact Or.comm, by rw [List.length_append]; have := putL_len out x; have := h.len; simp; omega⟩
theorem PutI.sort {out raw : List (List Int)} (h : PutI out raw) {raw2 : List (List Int)} (hr : ∀ y, y ∈ raw ↔ y ∈ raw2) : out = sortL raw2 := upL_of h.up fun y => (h.mem y).trans (hr y)
def unitsR (s : List Bool) (l : List Int) : List (List Int) := (if nulS s (rd l 2) = true then [[rd l 0, rd l 1]] else []) ++ (if nulS s (rd l 1) = true then [[rd l 0, rd l 2]] else [])
theorem mem_unitsR {s : List Bool} {l p : List Int} : p ∈ unitsR s l ↔ p ∈ unitsOf s l := by
 unfold unitsR unitsOf; rw [List.mem_append, List.mem_append]; exact Or.comm
theorem unitsR_len (s : List Bool) (l : List Int) : (unitsR s l).length ≤ 2 := by
 unfold unitsR; rw [List.length_append]; have h1 : (if nulS s (rd l 1) = true then [[rd l 0, rd l 2]] else []).length ≤ 1 := by split <;> simp
 have h2 : (if nulS s (rd l 2) = true then [[rd l 0, rd l 1]] else []).length ≤ 1 := by split <;> simp
 omega
theorem has_setB (s : List Bool) (hs : s.length ≤ 40) (x : Int) (h0 : 0 ≤ x) (hx : x < (s.length : Int)) (k : Nat) (hk : 41 ≤ k) : spec_l1Has.f k (setB s) x = some (nulS s x) := by
 have hl := setB_len s; rw [has_eq (setB s) x zz1n k zz1n]; congr 1; rw [Bool.eq_iff_iff, decide_eq_true_eq, mem_setB, nulS_pos h0]; exact ⟨fun h => h.2, fun h => ⟨⟨h0, hx⟩, h⟩⟩
section
variable {s : List Bool} (hs : s.length ≤ 40)
include hs
theorem sp_j3 (out raw ls : List (List Int)) (y : List Int) (i : Int) (X : List (List Int)) (hy : y.length = 3) (h1 : rd y 1 < (s.length : Int)) (hp : PutI out raw) (hl : raw.length ≤ 5864062014000)
 (h : ∀ out', PutI out' (raw ++ (if nulS s (rd y 1) = true then [[rd y 0, rd y 2]] else [])) → Ev (fun k => spec_l6Pairs.l1 k (setB s) out' ls ls.length (wrap64 (i + 1))) X) :
 Ev (fun k => spec_l6Pairs.j3 k (setB s) out y ls ls.length i) X := by
 have hol := hp.len; by_cases c : 0 ≤ rd y 1
 · cases hv : nulS s (rd y 1) with
   | true =>
    rw [hv, if_pos rfl] at h; obtain ⟨K, h⟩ := h (putL out [rd y 0, rd y 2]) (hp.put rfl); dsimp only at h; refine ⟨K + out.length + 50, fun k hk => ?_⟩; dsimp only; obtain ⟨k, rfl⟩ : ∃ m, k = m + 1 := ⟨k - 1, zz1n⟩
    simp only [spec_l6Pairs.j3]; rw [if_pos zz1n, if_pos zz1n, has_setB s hs _ c h1 k zz1n, hv]; simp only [Option.bind_some]; rw [if_pos trivial, if_pos zz1n, if_pos zz1n, insert_eq out _ 2 zz1n rfl hp.two hp.up zz1n k zz1n]; exact h k zz1n
   | false =>
    rw [hv, if_neg zz1m, List.append_nil] at h; obtain ⟨K, h⟩ := h out hp; dsimp only at h; refine ⟨K + 50, fun k hk => ?_⟩; dsimp only; obtain ⟨k, rfl⟩ : ∃ m, k = m + 1 := ⟨k - 1, zz1n⟩
    simp only [spec_l6Pairs.j3]; rw [if_pos zz1n, if_pos zz1n, has_setB s hs _ c h1 k zz1n, hv]; simp only [Option.bind_some]; rw [if_neg zz1m]; exact h k zz1n
 · rw [nulS_neg zz1n, if_neg zz1m, List.append_nil] at h; obtain ⟨K, h⟩ := h out hp; dsimp only at h; refine ⟨K + 1, fun k hk => ?_⟩; dsimp only; obtain ⟨k, rfl⟩ : ∃ m, k = m + 1 := ⟨k - 1, zz1n⟩
   simp only [spec_l6Pairs.j3]; rw [if_pos zz1n, if_neg zz1n]; exact h k zz1n
theorem sp_j2 (out raw ls : List (List Int)) (y : List Int) (i : Int) (X : List (List Int)) (hy : y.length = 3) (h1 : rd y 1 < (s.length : Int)) (b : Bool) (hp : PutI out raw) (hl : raw.length ≤ 5864062013000)
 (h : ∀ out', PutI out' (raw ++ ((if b = true then [[rd y 0, rd y 1]] else []) ++ (if nulS s (rd y 1) = true then [[rd y 0, rd y 2]] else []))) → Ev (fun k => spec_l6Pairs.l1 k (setB s) out' ls ls.length (wrap64 (i + 1))) X) :
 Ev (fun k => spec_l6Pairs.j2 k (setB s) out y ls ls.length i b) X := by
 have hol := hp.len; cases b with
 | true =>
  rw [if_pos rfl] at h; obtain ⟨K, h⟩ := sp_j3 hs (putL out [rd y 0, rd y 1]) (raw ++ [[rd y 0, rd y 1]]) ls y i X hy h1 (hp.put rfl) (by rw [List.length_append]; simp; omega) (by simpa using h); dsimp only at h; refine ⟨K + out.length + 50, fun k hk => ?_⟩; dsimp only; obtain ⟨k, rfl⟩ : ∃ m, k = m + 1 := ⟨k - 1, zz1n⟩
  simp only [spec_l6Pairs.j2]; rw [if_pos trivial, if_pos zz1n, if_pos zz1n, insert_eq out _ 2 zz1n rfl hp.two hp.up zz1n k zz1n]; exact h k zz1n
 | false =>
  rw [if_neg zz1m, List.nil_append] at h; obtain ⟨K, h⟩ := sp_j3 hs out raw ls y i X hy h1 hp zz1n h; dsimp only at h; refine ⟨K + 1, fun k hk => ?_⟩; dsimp only; obtain ⟨k, rfl⟩ : ∃ m, k = m + 1 := ⟨k - 1, zz1n⟩
  simp only [spec_l6Pairs.j2]; rw [if_neg zz1m]; exact h k zz1n
theorem sp_l1 (ls : List (List Int)) (hls : ls.length ≤ 1048576) (hok : ∀ l, l ∈ ls → l.length = 3 ∧ rd l 1 < (s.length : Int) ∧ rd l 2 < (s.length : Int)) (raw2 : List (List Int)) (d : Nat) : ∀ (i : Nat) (out raw : List (List Int)), i ≤ ls.length → ls.length - i = d → PutI out raw → raw.length ≤ 1048576 + 2 * i → (∀ p, p ∈ raw ++ (ls.drop i).flatMap (unitsR s) ↔ p ∈ raw2) →
 Ev (fun k => spec_l6Pairs.l1 k (setB s) out ls ls.length i) (sortL raw2) := by
 induction d with
 | zero =>
  intro i out raw h1 hd hp ho hm; refine ⟨1, fun k hk => ?_⟩; dsimp only; obtain ⟨k, rfl⟩ : ∃ m, k = m + 1 := ⟨k - 1, zz1n⟩
  simp only [spec_l6Pairs.l1]; rw [List.drop_of_length_le zz1n] at hm; rw [if_neg zz1n, hp.sort (fun y => by have := hm y; simpa using this)]
 | succ d ih =>
  intro i out raw h1 hd hp ho hm; have hil : i < ls.length := by omega
  have ed : ls.drop i = rd_L1 ls i :: ls.drop (i + 1) := getD_drop ls i [] hil; have hmem : rd_L1 ls i ∈ ls := by unfold rd_L1; rw [Int.toNat_natCast, List.getD_eq_getElem?_getD, List.getElem?_eq_getElem hil]; exact List.getElem_mem hil
  obtain ⟨y3, y1, y2⟩ := hok _ hmem; obtain ⟨y, hy⟩ : ∃ y, y = rd_L1 ls i := ⟨_, rfl⟩
  rw [← hy] at y3 y1 y2 ed; rw [ed, List.flatMap_cons] at hm; have ew : wrap64 ((i : Int) + 1) = ((i + 1 : Nat) : Int) := wsuccL hil zz1n; have hJ : Ev (fun k => spec_l6Pairs.j2 k (setB s) out y ls ls.length i (nulS s (rd y 2))) (sortL raw2) := sp_j2 hs out raw ls y i _ y3 y1 _ hp zz1n (fun out' hp' => by
   rw [ew]; refine ih (i + 1) out' (raw ++ unitsR s y) zz1n zz1n hp' (by rw [List.length_append]; have := unitsR_len s y; omega) (fun p => ?_); rw [List.append_assoc]; exact hm p)
  obtain ⟨K, hK⟩ := hJ; dsimp only at hK; refine ⟨K + 50, fun k hk => ?_⟩; dsimp only; obtain ⟨k, rfl⟩ : ∃ m, k = m + 1 := ⟨k - 1, zz1n⟩
  have hk2 := hK k zz1n; simp only [spec_l6Pairs.l1]; rw [if_pos zz1n, if_pos zz1n, if_pos zz1n, ← hy, if_pos zz1n]; by_cases c : rd y 2 < 0
  · rw [if_neg zz1n]; rw [nulS_neg c] at hk2; exact hk2
  · rw [if_pos zz1n, has_setB s hs _ zz1n y2 k zz1n]; exact hk2
end
theorem sp_l0 (s : List Bool) (hs : s.length ≤ 40) (ones pairs : List (List Int)) (a0 a1 : Int) (es : List Int) (fs : List (List Int)) (ho : ones.length ≤ 1048576) (hp : pairs.length ≤ 1048576) (hok1 : ∀ l, l ∈ ones → l.length = 2) (hok : ∀ l, l ∈ pairs → l.length = 3 ∧ rd l 1 < (s.length : Int) ∧ rd l 2 < (s.length : Int)) (d : Nat) : ∀ (i : Nat) (out : List (List Int)), i ≤ ones.length → ones.length - i = d → PutI out (ones.take i) →
 Ev (fun k => spec_l6Pairs.l0 k (setB s) out ones ones.length i a0 a1 pairs ones es fs) (sortL (rawU s ones pairs)) := by
 induction d with
 | zero =>
  intro i out h1 hd hP; rw [List.take_of_length_le zz1n] at hP; obtain ⟨K, h⟩ := sp_l1 hs pairs hp hok (rawU s ones pairs) pairs.length 0 out ones zz1n zz1n hP zz1n (fun p => by
   unfold rawU; rw [List.drop_zero, List.mem_append, List.mem_append, List.mem_flatMap, List.mem_flatMap]; exact or_congr Iff.rfl ⟨fun ⟨l, a, b⟩ => ⟨l, a, mem_unitsR.1 b⟩, fun ⟨l, a, b⟩ => ⟨l, a, mem_unitsR.2 b⟩⟩)
  dsimp only at h; refine ⟨K + 1, fun k hk => ?_⟩; dsimp only; obtain ⟨k, rfl⟩ : ∃ m, k = m + 1 := ⟨k - 1, zz1n⟩
  simp only [spec_l6Pairs.l0]; rw [if_neg zz1n]; exact h k zz1n
 | succ d ih =>
  intro i out h1 hd hP; have hil : i < ones.length := by omega
  have et : ones.take (i + 1) = ones.take i ++ [rd_L1 ones i] := take_getD ones i [] hil; have hmem : rd_L1 ones i ∈ ones := by unfold rd_L1; rw [Int.toNat_natCast, List.getD_eq_getElem?_getD, List.getElem?_eq_getElem hil]; exact List.getElem_mem hil
  have y2 := hok1 _ hmem; have hol := hP.len; rw [List.length_take] at hol; obtain ⟨K, h⟩ := ih (i + 1) (putL out (rd_L1 ones i)) zz1n zz1n (by rw [et]; exact hP.put y2); dsimp only at h; refine ⟨K + out.length + 10, fun k hk => ?_⟩; dsimp only; obtain ⟨k, rfl⟩ : ∃ m, k = m + 1 := ⟨k - 1, zz1n⟩
  simp only [spec_l6Pairs.l0]; rw [if_pos zz1n, if_pos zz1n, if_pos zz1n, own_eq _ zz1n]; simp only [Option.bind_some]; rw [insert_eq out _ 2 zz1n y2 hP.two hP.up zz1n k zz1n]; simp only [Option.bind_some]; rw [wsuccL hil zz1n]; exact h k zz1n
theorem l6Pairs_ev {n : Nat} {toks : Int} {ps os : List (List Int)} {es : List Int} {fs : List (List Int)} (ok : OkB (n : Int) toks ps os es) (hp : ps.length ≤ 1048576) (ho : os.length ≤ 1048576) : Ev (fun k => spec_l6Pairs.f k (n : Int) toks ps os es fs) (pairsU n es os ps) := by
 have hl := nulV_len (okB_rows ok) ok.e; have h40 := ok.n; obtain ⟨K, h⟩ := l5Null_ev (fs := fs) ok zz1n zz1n; obtain ⟨K2, h2⟩ := sp_l0 (nulV n es (ps ++ os)) zz1n os ps (n : Int) toks es fs ho hp (fun l hm => (ok.o l hm).1) (fun l hm => by
  obtain ⟨e1, e2⟩ := ok.p l hm; rw [hl]; exact ⟨e1, (e2.2 1 zz1n zz1n).2, (e2.2 2 zz1n zz1n).2⟩) os.length 0 [] zz1n zz1n ⟨List.Pairwise.nil, (fun y hy => by cases hy), (fun y => by simp), zz1o⟩
 dsimp only at h h2; refine ⟨K + K2, fun k hk => ?_⟩; dsimp only; unfold spec_l6Pairs.f; rw [h k zz1n]; exact h2 k zz1n
def esOf (ps : List (List Int)) (x : Int) : List Int := (if 0 ≤ x then [x] else []) ++ ((ps.filter fun p => decide (rd p 1 = x)).map fun p => rd p 0)
def rowU (n : Nat) (ps : List (List Int)) (x : Int) : List Int := setB (nulV n (esOf ps x) ps)
def PairsIn (n : Nat) (ps : List (List Int)) : Prop := ∀ p, p ∈ ps → p.length = 2 ∧ (0 ≤ rd p 0 ∧ rd p 0 < n) ∧ rd p 1 < n
theorem pairsIn_rows {n : Nat} {ps : List (List Int)} (h : PairsIn n ps) : rowsIn n ps := fun l hl => by
 obtain ⟨e1, e2, e3⟩ := h l hl; exact ⟨e2, fun j a b => by rw [show j = 1 by omega]; exact e3⟩
theorem mem_esOf {ps : List (List Int)} {x z : Int} : z ∈ esOf ps x ↔ (0 ≤ x ∧ z = x) ∨ ∃ p, p ∈ ps ∧ rd p 1 = x ∧ z = rd p 0 := by
 unfold esOf; rw [List.mem_append, List.mem_map]; constructor
 · rintro (h | ⟨p, hp, rfl⟩)
   · by_cases c : 0 ≤ x
     · rw [if_pos c, List.mem_singleton] at h; exact .inl ⟨c, h⟩
     · rw [if_neg c] at h; cases h
   · rw [List.mem_filter] at hp; exact .inr ⟨p, hp.1, of_decide_eq_true hp.2, rfl⟩
 · rintro (⟨c, rfl⟩ | ⟨p, hp, e, rfl⟩)
   · left; rw [if_pos c]; exact List.mem_singleton.2 rfl
   · right; exact ⟨p, List.mem_filter.2 ⟨hp, decide_eq_true e⟩, rfl⟩
theorem esOf_in {n : Nat} {ps : List (List Int)} (h : PairsIn n ps) {x : Int} (hx : x < n) : ∀ z, z ∈ esOf ps x → 0 ≤ z ∧ z < n := fun z hz => by
 rcases mem_esOf.1 hz with ⟨c, rfl⟩ | ⟨p, hp, _, rfl⟩
 · exact ⟨c, hx⟩
 · exact (h p hp).2.1
theorem mem_rowU {n : Nat} {ps : List (List Int)} (h : PairsIn n ps) {x : Int} (hx : x < n) (z : Int) : z ∈ rowU n ps x ↔ 0 ≤ z ∧ UpR ps (· = x) z := by
 have hr := pairsIn_rows h; have he := esOf_in h hx; have key : ∀ z : Int, 0 ≤ z → z < n → ((nulV n (esOf ps x) ps).getD z.toNat false = true ↔ NulR (esOf ps x) ps z) := fun z h0 h1 => by
  have := nulV_at hr he (i := z.toNat) zz1n; rwa [show ((z.toNat : Nat) : Int) = z by omega] at this
 have n2u : ∀ z, NulR (esOf ps x) ps z → UpR ps (· = x) z := fun z hz => hz.least (T := UpR ps (· = x)) (fun z hz => by
  rcases mem_esOf.1 hz with ⟨_, rfl⟩ | ⟨p, hp, e, rfl⟩
  · exact .base rfl
  · exact .step hp (.base e)) (fun l hl hj => .step hl (hj 1 zz1n (by have := (h l hl).1; omega)).2)
 have u2n : ∀ z, UpR ps (· = x) z → z = x ∨ ((0 ≤ z ∧ z < n) ∧ NulR (esOf ps x) ps z) := fun z hz => hz.least (T := fun z => z = x ∨ ((0 ≤ z ∧ z < n) ∧ NulR (esOf ps x) ps z)) (fun z hz => .inl hz) (fun p hp hq => .inr ⟨(h p hp).2.1, by
  rcases hq with e | ⟨h0, hN⟩
  · exact .base (mem_esOf.2 (.inr ⟨p, hp, e, rfl⟩))
  · have hl := (h p hp).1; exact .step hp (fun j a b => by rw [show j = 1 by omega]; exact h0.1) (fun j a b => by rw [show j = 1 by omega]; exact hN)⟩)
 unfold rowU; rw [mem_setB, nulV_len hr he]; constructor
 · rintro ⟨⟨h0, h1⟩, h2⟩; exact ⟨h0, n2u z ((key z h0 h1).1 h2)⟩
 · rintro ⟨h0, hz⟩; rcases u2n z hz with e | ⟨h1, hN⟩
   · subst e; exact ⟨⟨h0, hx⟩, (key z h0 hx).2 (.base (mem_esOf.2 (.inl ⟨h0, rfl⟩)))⟩
   · exact ⟨⟨h0, h1.2⟩, (key z h0 h1.2).2 hN⟩
theorem rowU_up (n : Nat) (ps : List (List Int)) (x : Int) : UpI (rowU n ps x) := setB_up _
theorem rowU_len {n : Nat} {ps : List (List Int)} (h : PairsIn n ps) {x : Int} (hx : x < n) : (rowU n ps x).length ≤ n := by
 have := setB_len (nulV n (esOf ps x) ps); rw [nulV_len (pairsIn_rows h) (esOf_in h hx)] at this; exact this
theorem len_filter_ne (a : Int) : ∀ l : List Int, l.Nodup → l.length ≤ (l.filter fun x => decide (x ≠ a)).length + 1
 | [], _ => by simp
 | b :: l, h => by
  obtain ⟨h1, h2⟩ := List.nodup_cons.1 h; by_cases c : b = a
  · subst c; have e : l.filter (fun x => decide (x ≠ b)) = l := List.filter_eq_self.2 fun x hx => decide_eq_true fun e => h1 (e ▸ hx)
    rw [List.filter_cons_of_neg zz1o, e]; simp
  · have := len_filter_ne a l h2; rw [List.filter_cons_of_pos (by simpa using c)]; simp only [List.length_cons]; omega
theorem nodup_len : ∀ (n : Nat) (l : List Int), l.Nodup → (∀ x, x ∈ l → 0 ≤ x ∧ x < n) → l.length ≤ n
 | 0, l, _, h => by
  cases l with
  | nil => simp
  | cons a l => have := h a List.mem_cons_self; omega
 | n + 1, l, hd, h => by
  have h1 := len_filter_ne (n : Int) l hd; have h2 := nodup_len n (l.filter fun x => decide (x ≠ (n : Int))) (hd.filter _) (fun x hx => by
   rw [List.mem_filter, decide_eq_true_eq] at hx; have := h x hx.1; omega)
  omega
structure BfsI (ps : List (List Int)) (n : Nat) (x : Int) (S : List Int) (i : Nat) : Prop where
 nd : S.Nodup
 st : x ∈ S
 up : ∀ z, z ∈ S → UpR ps (· = x) z
 le : i ≤ S.length
 cl : ∀ j : Nat, j < i → ∀ p, p ∈ ps → rd p 1 = rd S j → rd p 0 ∈ S
theorem upR_lt {n : Nat} {ps : List (List Int)} (h : PairsIn n ps) {x z : Int} (hz : UpR ps (· = x) z) : z = x ∨ (0 ≤ z ∧ z < n) := hz.least (T := fun z => z = x ∨ (0 ≤ z ∧ z < n)) (fun _ e => .inl e) (fun p hp _ => .inr (h p hp).2.1)
theorem BfsI.len {ps : List (List Int)} {n : Nat} {x : Int} {S : List Int} {i : Nat} (h : BfsI ps n x S i) (hp : PairsIn n ps) : S.length ≤ n + 1 := by
 have h1 := len_filter_ne x S h.nd; have h2 := nodup_len n (S.filter fun z => decide (z ≠ x)) (h.nd.filter _) (fun z hz => by
  rw [List.mem_filter, decide_eq_true_eq] at hz; exact (upR_lt hp (h.up z hz.1)).resolve_left hz.2)
 omega
structure BfsJ (ps : List (List Int)) (n : Nat) (x y : Int) (S : List Int) (i kk : Nat) : Prop where
 nd : S.Nodup
 st : x ∈ S
 up : ∀ z, z ∈ S → UpR ps (· = x) z
 le : i < S.length
 yy : rd S i = y
 cl : ∀ j : Nat, j < i → ∀ p, p ∈ ps → rd p 1 = rd S j → rd p 0 ∈ S
 cj : ∀ j : Nat, j < kk → rd (ps.getD j []) 1 = y → rd (ps.getD j []) 0 ∈ S
theorem BfsI.start {ps : List (List Int)} {n : Nat} {x : Int} : BfsI ps n x [x] 0 := ⟨zz1o, zz1o, fun z hz => by rw [List.mem_singleton.1 hz]; exact .base rfl, zz1o, fun j hj => absurd hj (Nat.not_lt_zero _)⟩
theorem BfsI.take {ps : List (List Int)} {n : Nat} {x : Int} {S : List Int} {i : Nat} (h : BfsI ps n x S i) (hi : i < S.length) : BfsJ ps n x (rd S i) S i 0 := ⟨h.nd, h.st, h.up, hi, rfl, h.cl, fun j hj => absurd hj (Nat.not_lt_zero _)⟩
theorem BfsJ.skip {ps : List (List Int)} {n : Nat} {x y : Int} {S : List Int} {i kk : Nat} (h : BfsJ ps n x y S i kk) (hs : rd (ps.getD kk []) 1 ≠ y ∨ rd (ps.getD kk []) 0 ∈ S) : BfsJ ps n x y S i (kk + 1) :=
 ⟨h.nd, h.st, h.up, h.le, h.yy, h.cl, fun j hj e => by
  by_cases c : j = kk
  · subst c; exact hs.resolve_left (fun hn => hn e)
  · exact h.cj j zz1n e⟩
theorem rd_snoc {S : List Int} {z : Int} {j : Nat} (hj : j < S.length) : rd (S ++ [z]) j = rd S j := by
 unfold rd; rw [Int.toNat_natCast, List.getD_eq_getElem?_getD, List.getD_eq_getElem?_getD, List.getElem?_append_left hj]
theorem BfsJ.put {ps : List (List Int)} {n : Nat} {x y : Int} {S : List Int} {i kk : Nat} (h : BfsJ ps n x y S i kk) (hk : kk < ps.length) (he : rd (ps.getD kk []) 1 = y) (hn : rd (ps.getD kk []) 0 ∉ S) : BfsJ ps n x y (S ++ [rd (ps.getD kk []) 0]) i (kk + 1) := by
 have hm : ps.getD kk [] ∈ ps := by rw [List.getD_eq_getElem?_getD, List.getElem?_eq_getElem hk]; exact List.getElem_mem hk
 have hy : y ∈ S := by rw [← h.yy]; exact rd_in h.le
 refine ⟨?_, List.mem_append_left _ h.st, fun z hz => ?_, by rw [List.length_append]; have := h.le; simp; omega, by rw [rd_snoc h.le]; exact h.yy, fun j hj p hp e => ?_, fun j hj e => ?_⟩
 · rw [List.nodup_append]; exact ⟨h.nd, zz1o, fun a ha b hb e => by rw [List.mem_singleton.1 hb] at e; exact hn (e ▸ ha)⟩
 · rcases List.mem_append.1 hz with h1 | h1
   · exact h.up z h1
   · rw [List.mem_singleton.1 h1]; exact .step hm (by rw [he]; exact h.up y hy)
 · rw [rd_snoc (by have := h.le; omega)] at e; exact List.mem_append_left _ (h.cl j hj p hp e)
 · by_cases c : j = kk
   · subst c; exact List.mem_append_right _ (List.mem_singleton.2 rfl)
   · exact List.mem_append_left _ (h.cj j zz1n e)
theorem BfsJ.done {ps : List (List Int)} {n : Nat} {x y : Int} {S : List Int} {i kk : Nat} (h : BfsJ ps n x y S i kk) (hk : ps.length ≤ kk) : BfsI ps n x S (i + 1) :=
 ⟨h.nd, h.st, h.up, h.le, fun j hj p hp e => by
  by_cases c : j = i
  · subst c; obtain ⟨m, hm, rfl⟩ := List.getElem_of_mem hp; have := h.cj m zz1n; rw [List.getD_eq_getElem?_getD, List.getElem?_eq_getElem hm] at this; exact this (e.trans h.yy)
  · exact h.cl j zz1n p hp e⟩
theorem BfsI.fin {ps : List (List Int)} {n : Nat} {x : Int} {S : List Int} {i : Nat} (h : BfsI ps n x S i) (hi : S.length ≤ i) (hp : PairsIn n ps) (hx : x < n) : ((S.take i).filter fun z => decide (0 ≤ z)).mergeSort (fun a b => decide (a ≤ b)) = rowU n ps x := by
 rw [List.take_of_length_le hi]; have hmem : ∀ z, z ∈ S ↔ UpR ps (· = x) z := fun z => ⟨h.up z, fun hz => hz.least (T := fun z => z ∈ S) (fun z e => by rw [e]; exact h.st) (fun p hp hq => by
  obtain ⟨j, hj, e⟩ := in_rd hq; exact h.cl j (by have := h.le; omega) p hp e.symm)⟩
 have hs := List.pairwise_mergeSort (le := fun (x y : Int) => decide (x ≤ y)) (fun a b c h1 h2 => by simp at *; omega) (fun a b => by simp; omega) (S.filter fun z => decide (0 ≤ z)); have hnd : ((S.filter fun z => decide (0 ≤ z)).mergeSort fun a b => decide (a ≤ b)).Nodup := (List.mergeSort_perm _ _).nodup_iff.2 (h.nd.filter _); refine upI_ext ?_ (rowU_up n ps x) fun z => ?_
 · unfold UpI; have := List.Pairwise.and hs hnd; exact this.imp fun ⟨h1, h2⟩ => by
    have h3 := of_decide_eq_true h1; have h4 : _ ≠ _ := h2; omega
 · rw [List.mem_mergeSort, List.mem_filter, decide_eq_true_eq, mem_rowU hp hx, hmem]; exact And.comm
def MapS (D : DataW Value) (S : List Int) : Prop := Maps.IsMap D ∧ ∀ z : Int, D.atKey (.int .i64 z) (.held (.bool false)) = .held (.bool (decide (z ∈ S)))
theorem mapS_nil : MapS (DataW.map []) [] := ⟨⟨[], rfl⟩, fun z => by simp [DataW.atKey]⟩
theorem mapS_put {D : DataW Value} {S : List Int} (h : MapS D S) (y : Int) : MapS (D.put (.int .i64 y) (.held (.bool true))) (S ++ [y]) := ⟨h.1.put _ _, fun z => by
 by_cases c : z = y
 · subst c; rw [Maps.atKey_put_same (k := .int .i64 z) h.1 trivial, decide_eq_true (List.mem_append_right _ (List.mem_singleton.2 rfl))]
 · rw [Maps.atKey_put_other (fun e => by injection e with _ e; exact c e), h.2 z]; congr 2; rw [decide_eq_decide, List.mem_append, List.mem_singleton]; exact ⟨.inl, fun h => h.resolve_right c⟩⟩
end Go.Proofs.Ytkocahlifffgjaa.P
namespace Go.Proofs.Ytkocahlifffgjaa.P
open Go.RowKit Go.Proofs.YtkocahlifffgjaaW.PrintWords Go.Proofs.YtkocahlifffgjaaW.PrintLast Go.Proofs.YtkocahlifffgjaaW.PrintMore
attribute [local go_sem] max2_int min2_int max_two min_two max_three min_three max_four min_four
set_option linter.unusedVariables false
set_option linter.unusedSimpArgs false
mutual
def spec_l6Up.l0 : Nat → List (List Int) → List Int → Bool → Option (List Int)
 | 0, _, _, _ => none
 | k + 1, x0, x5, x6 => if x6 = true then (spec_l6Up.l1 k x0 x5 false x0 (x0.length : Int) 0) else (some x5)
def spec_l6Up.l1 : Nat → List (List Int) → List Int → Bool → List (List Int) → Int → Int → Option (List Int)
 | 0, _, _, _, _, _, _ => none
 | k + 1, x0, x5, x6, hv, d5, dS => if dS < d5 then (if 0 ≤ dS then (if dS < (hv.length : Int) then (if 1 < ((rd_L1 hv dS).length : Int) then ((spec_l1Has.f k x5 (rd (rd_L1 hv dS) 1)).bind fun cL => (if cL = true then (if 0 < ((rd_L1 hv dS).length : Int) then ((spec_l1Has.f k x5 (rd (rd_L1 hv dS) 0)).bind fun cb => (if cb = true then (spec_l6Up.l1 k x0 x5 x6 hv d5 (wrap64 (dS + 1))) else ((spec_l1Put.f k x5 (rd (rd_L1 hv dS) 0)).bind fun bU => (spec_l6Up.l1 k x0 bU true hv d5 (wrap64 (dS + 1)))))) else (none)) else (spec_l6Up.l1 k x0 x5 x6 hv d5 (wrap64 (dS + 1))))) else (none)) else (none)) else (none)) else (spec_l6Up.l0 k x0 x5 x6)
end
def spec_l6Up.f (k : Nat) (l0 : List (List Int)) (l1 : List Int) : Option (List Int) := (spec_l1Own.f l1).bind fun ee => (spec_l6Up.l0 k l0 ee true)
set_option maxHeartbeats 8000000 in
set_option maxRecDepth 100000 in
theorem spec_l6Up.calls (k : Nat) (A0 : Option Addr) (c0 : Nat) (l0 : List (List Int)) (A1 : Option Addr) (c1 : Nat) (l1 : List Int) (r : List Int) (w : World) (dK : Kd.C (Kd.slice 3 (Kd.int .i64)) w A0 l0.length l0) (dL : l0.length ≤ c0) (et : Kd.C (Kd.int .i64) w A1 l1.length l1) (eu : l1.length ≤ c1) (h : spec_l6Up.f k l0 l1 = some r) :
 Calls Try.prog 60 #[.slice A0 l0.length c0, .slice A1 l1.length c1] w fun e w' => ∃ eQ : Value, e = .returned (eQ) ∧ Kd.R (Kd.int .i64) 3 w' w.heap.size (fun _ => True) eQ r ∧ Below w.heap.size w w' := by
 have dx := zA dK; have iG := zA dL; clear dK dL; have eO := zA et; have hl := zA eu; clear et eu; have HB := zA (Below.refl w.heap.size w); have H : ((spec_l1Own.f l1).bind fun ee => (spec_l6Up.l0 k l0 ee true)) = some r := h; clear h; replace H := Option.bind_eq_some_iff.mp H; obtain ⟨ee, g0, H⟩ := H; have A3 := zA g0; clear g0; have H' := zA H; clear H; go_enter Try.func60, Try.ntmps60; go_wp2_with (first | ((with_reducible refine gate_callee (f := 65) rfl ?_); refine goesL_ (some 10) rfl rfl Try.func65 zz1j rfl #[.slice A1 l1.length c1] rfl zz0i ?_; (with_reducible refine (spec_l1Own.calls _ _ l1 ee _ ?ak ?al A3.out).mono ?_); (case ak => repeat (first | exact eO.out | refine zP ?_ _ | refine zQ ?_ _ | refine zR ?_)); (case al => exact hl.out); rintro e w4 ⟨jx, rfl, b7, hb⟩; refine ⟨_, rfl, ?_⟩; have fK := zA (Kd.R_lower b7 (zF (zz0y HB))); replace HB := zA (zG (zz0y HB) hb); (try clear hb); (try clear hb2); (try clear hk); (try clear hi); (try clear b7))); go_loopg [5, 6] k (fun kq v5 v6 w' => ∃ (ao : List Int) (nT : Bool), v6 = .bool nT ∧ Aside0 (spec_l6Up.l0 kq l0 ao nT = some r) ∧ Aside0 (kq ≤ k) ∧ Aside0 (Kd.R (Kd.int .i64) 3 w' w.heap.size (fun _ => True) v5 ao) ∧ Aside0 (Below w.heap.size w w'))
 case atStart => exact ⟨(ee), (true), zz16, H', ⟨Nat.le_refl _⟩, ⟨zz12 fK⟩, ⟨zz0y HB⟩⟩
 case round =>
  clear H'; (try clear c1); (try clear p2); obtain ⟨ao, nT, rfl, HA, bM, cR, HB⟩ := hrel; cases gk with
  | zero => exact absurd HA.out (by simp [spec_l6Up.l0])
  | succ k1 =>
   have H := HA.out; clear HA; simp only [spec_l6Up.l0] at H; by_cases c5 : nT = true
   · subst c5; rw [if_pos rfl] at H; have H' := zA H; clear H; go_wp2; go_loopg [5, 6, 14] k1 (fun kq v5 v6 nQ w' => ∃ (fF : List Int) (lS : Bool) (aX : Int), v6 = .bool lS ∧ nQ = .int .i64 aX ∧ Aside0 (spec_l6Up.l1 kq l0 fF lS l0 (l0.length : Int) aX = some r) ∧ Aside0 (kq ≤ k1) ∧ Aside0 (Kd.R (Kd.int .i64) 3 w' w.heap.size (fun _ => True) v5 fF) ∧ Aside0 (Below w.heap.size w w'))
     case atStart => exact ⟨(ao), (false), (0), zz16, zz16, H', ⟨Nat.le_refl _⟩, ⟨zz12 cR⟩, ⟨zz0y HB⟩⟩
     case round =>
      clear H'; (try clear c1); (try clear p2); (try clear c5); (try clear p2); obtain ⟨fF, lS, aX, rfl, rfl, HA, cN, cR, HB⟩ := hrel; cases gk with
      | zero => exact absurd HA.out (by simp [spec_l6Up.l1])
      | succ k2 =>
       have H := HA.out; clear HA; simp only [spec_l6Up.l1] at H; by_cases c6 : aX < (l0.length : Int)
       · rw [if_pos c6] at H; have dq := decide_eq_true c6; clear c6; replace H := zIn H; obtain ⟨c7, H⟩ := H; have dy : decide (0 ≤ aX) = true := decide_eq_true c7; clear c7; replace H := zIn H; obtain ⟨c8, H⟩ := H; have dY : decide (aX < (l0.length : Int)) = true := decide_eq_true c8; clear c8; replace H := zIn H; obtain ⟨c9, H⟩ := H; have eR : decide (1 < ((rd_L1 l0 aX).length : Int)) = true := decide_eq_true c9; have qA : decide (1 < (rd_L1 l0 aX).length) = true := decide_eq_true zz1n; clear c9; replace H := Option.bind_eq_some_iff.mp H; obtain ⟨cL, fP, H⟩ := H; have kJ := zA fP; clear fP; by_cases fG : cL = true
         · subst fG; rw [if_pos rfl] at H; replace H := zIn H; obtain ⟨eS, H⟩ := H; have g1 : decide (0 < ((rd_L1 l0 aX).length : Int)) = true := decide_eq_true eS; have c12b1 : decide (0 < (rd_L1 l0 aX).length) = true := decide_eq_true zz1n; clear eS; replace H := Option.bind_eq_some_iff.mp H; obtain ⟨cb, m5, H⟩ := H; have qw := zA m5; clear m5; by_cases ip : cb = true
           · subst ip; rw [if_pos rfl] at H; have H' := zA H; clear H; have dr : 0 ≤ (aX : Int) := of_decide_eq_true zz1i; have dt : aX < (l0.length : Int) := of_decide_eq_true zz1i; obtain ⟨gZ, gN, gO, f9, bR, cy, cz⟩ := at_L1 dx.out aX dr dt; cases f9; replace bR := (HB.out.cell (World.block_lt_of_cell? w _ bR)).trans bR; have dk := zA cz; have fQ := zA cy; clear cz cy; replace dr := eq_true dr; replace dt := eq_true dt; have b9 : 0 ≤ (1 : Int) := zz1n
             have ca : 1 < ((rd_L1 l0 aX).length : Int) := of_decide_eq_true zz1i; obtain ⟨dN, dA, aD⟩ := Kd.at_int dk.out 1 b9 ca; cases dA; (try simp only [show (1 : Int).toNat = 1 from rfl, Nat.reduceMul, Nat.reduceEqDiff, Go.Addr.add, ↓reduceIte] at aD); have oQ : (1 < (rd_L1 l0 aX).length) = True := eq_true zz1n; (try rw [zi1] at aD); replace aD := (HB.out.cell (World.block_lt_of_cell? w _ aD)).trans aD; replace b9 := eq_true b9; replace ca := eq_true ca; obtain ⟨eU, eV, pm⟩ := Kd.R_slice cR.out; subst pm; go_wp2_with (first | ((with_reducible refine gate_callee (f := 63) rfl ?_); refine goesL_ (some 22) rfl rfl Try.func63 zz1j rfl #[.slice eU fF.length eV, .int .i64 (rd (rd_L1 l0 aX) 1)] rfl zz0i ?_; (with_reducible refine (spec_l1Has.calls k2 _ _ fF (rd (rd_L1 l0 aX) 1) true _ ?ak ?al kJ.out).mono ?_); (case ak => repeat (first | exact (Kd.R_reads' cR.out).2.2 | refine zP ?_ _ | refine zQ ?_ _ | refine zR ?_)); (case al => exact (Kd.R_reads' cR.out).2.1); rintro e w' ⟨rfl, ⟨nd, rfl⟩⟩; refine ⟨_, rfl, ?_⟩; have ib : 0 ≤ (0 : Int) := zz1n; have ic : 0 < ((rd_L1 l0 aX).length : Int) := of_decide_eq_true zz1i; obtain ⟨lj, m6, cY⟩ := Kd.at_int dk.out 0 ib ic; obtain rfl : dN = lj := (by injection m6); have oR : (0 < (rd_L1 l0 aX).length) = True := eq_true zz1n; (try rw [zi0] at cY); (try rw [Addr.add_zero'] at cY); replace cY := (HB.out.cell (World.block_lt_of_cell? w _ cY)).trans cY; replace ib := eq_true ib; replace ic := eq_true ic) | (go_at_call 63; (with_reducible refine (spec_l1Has.calls k2 _ _ fF (rd (rd_L1 l0 aX) 0) true _ ?ak ?al qw.out).mono ?_); (case ak => repeat (first | exact (Kd.R_reads' cR.out).2.2 | refine zP ?_ _ | refine zQ ?_ _ | refine zR ?_)); (case al => exact (Kd.R_reads' cR.out).2.1); rintro e w' ⟨rfl, ⟨nd, rfl⟩⟩))
             go_roundg k2
             case measure => have := bM.out; have := cN.out; omega
             case rel => exact ⟨(fF), (lS), (wrap64 (aX + 1)), zz16, zz16, H', ⟨zz1b bM cN⟩, ⟨zz12 cR⟩, ⟨zz0y HB⟩⟩
           · replace ip := Bool.eq_false_iff.mpr ip; subst ip; rw [if_neg zFt] at H; replace H := Option.bind_eq_some_iff.mp H; obtain ⟨bU, hJ, H⟩ := H; have ms := zA hJ; clear hJ; have H' := zA H; clear H; have dr : 0 ≤ (aX : Int) := of_decide_eq_true zz1i; have dt : aX < (l0.length : Int) := of_decide_eq_true zz1i; obtain ⟨gZ, gN, gO, f9, bR, cy, cz⟩ := at_L1 dx.out aX dr dt; cases f9; replace bR := (HB.out.cell (World.block_lt_of_cell? w _ bR)).trans bR; have dk := zA cz; have fQ := zA cy; clear cz cy; replace dr := eq_true dr; replace dt := eq_true dt; have b9 : 0 ≤ (1 : Int) := zz1n
             have ca : 1 < ((rd_L1 l0 aX).length : Int) := of_decide_eq_true zz1i; obtain ⟨dN, dA, aD⟩ := Kd.at_int dk.out 1 b9 ca; cases dA; (try simp only [show (1 : Int).toNat = 1 from rfl, Nat.reduceMul, Nat.reduceEqDiff, Go.Addr.add, ↓reduceIte] at aD); have oQ : (1 < (rd_L1 l0 aX).length) = True := eq_true zz1n; (try rw [zi1] at aD); replace aD := (HB.out.cell (World.block_lt_of_cell? w _ aD)).trans aD; replace b9 := eq_true b9; replace ca := eq_true ca; obtain ⟨nU, nV, eo17⟩ := Kd.R_slice cR.out; subst eo17; go_wp2_with (first | ((with_reducible refine gate_callee (f := 63) rfl ?_); refine goesL_ (some 22) rfl rfl Try.func63 zz1j rfl #[.slice nU fF.length nV, .int .i64 (rd (rd_L1 l0 aX) 1)] rfl zz0i ?_; (with_reducible refine (spec_l1Has.calls k2 _ _ fF (rd (rd_L1 l0 aX) 1) true _ ?ak ?al kJ.out).mono ?_); (case ak => repeat (first | exact (Kd.R_reads' cR.out).2.2 | refine zP ?_ _ | refine zQ ?_ _ | refine zR ?_)); (case al => exact (Kd.R_reads' cR.out).2.1); rintro e w' ⟨rfl, ⟨nd, rfl⟩⟩; refine ⟨_, rfl, ?_⟩; have ib : 0 ≤ (0 : Int) := zz1n; have ic : 0 < ((rd_L1 l0 aX).length : Int) := of_decide_eq_true zz1i; obtain ⟨lj, m6, cY⟩ := Kd.at_int dk.out 0 ib ic; obtain rfl : dN = lj := (by injection m6); have oR : (0 < (rd_L1 l0 aX).length) = True := eq_true zz1n; (try rw [zi0] at cY); (try rw [Addr.add_zero'] at cY); replace cY := (HB.out.cell (World.block_lt_of_cell? w _ cY)).trans cY; replace ib := eq_true ib; replace ic := eq_true ic) | (go_at_call 63; (with_reducible refine (spec_l1Has.calls k2 _ _ fF (rd (rd_L1 l0 aX) 0) false _ ?ak ?al qw.out).mono ?_); (case ak => repeat (first | exact (Kd.R_reads' cR.out).2.2 | refine zP ?_ _ | refine zQ ?_ _ | refine zR ?_)); (case al => exact (Kd.R_reads' cR.out).2.1); rintro e w' ⟨rfl, ⟨nd, rfl⟩⟩; have qk : 0 ≤ (0 : Int) := zz1n; have ql : 0 < ((rd_L1 l0 aX).length : Int) := of_decide_eq_true zz1i; obtain ⟨ad109, e109, gH⟩ := Kd.at_int dk.out 0 qk ql; obtain rfl : dN = ad109 := (by injection e109); have qi109 : (0 < (rd_L1 l0 aX).length) = True := eq_true zz1n; (try rw [zi0] at gH); (try rw [Addr.add_zero'] at gH); replace gH := (HB.out.cell (World.block_lt_of_cell? w _ gH)).trans gH; replace qk := eq_true qk; replace ql := eq_true ql) | ((with_reducible refine gate_callee (f := 66) rfl ?_); refine goesL_ (some 35) rfl rfl Try.func66 zz1j rfl #[.slice nU fF.length nV, .int .i64 (rd (rd_L1 l0 aX) 0)] rfl zz0i ?_; (with_reducible refine (spec_l1Put.calls k2 (fun k_ => some k_ = (.slice nU fF.length nV : Value).ownBlock) (.slice nU fF.length nV) fF (rd (rd_L1 l0 aX) 0) bU w _ ?ak ?al ms.out).mono ?_); (case ak => repeat (first | (with_reducible first | exact HB.out | apply zB | apply zC | apply zD) | exact HB.out)); (case al => exact Kd.R_tight rfl cR.out); rintro e jw ⟨ns, rfl, b7, hb, hkp⟩; refine ⟨_, rfl, ?_⟩; have cO := zA (Kd.R_mono (ok' := fun k_ => True) b7 (fun k_ hk_ => trivial)); replace HB := zA (hb); clear cR; (try clear hb); (try clear hkp); (try clear b7)))
             go_roundg k2
             case measure => have := bM.out; have := cN.out; omega
             case rel => exact ⟨(bU), (true), (wrap64 (aX + 1)), zz16, zz16, H', ⟨zz1b bM cN⟩, ⟨zz12 cO⟩, ⟨zz0y HB⟩⟩
         · replace fG := Bool.eq_false_iff.mpr fG; subst fG; rw [if_neg zFt] at H; have H' := zA H; clear H; have dr : 0 ≤ (aX : Int) := of_decide_eq_true zz1i; have dt : aX < (l0.length : Int) := of_decide_eq_true zz1i; obtain ⟨gZ, gN, gO, f9, bR, cy, cz⟩ := at_L1 dx.out aX dr dt; cases f9; replace bR := (HB.out.cell (World.block_lt_of_cell? w _ bR)).trans bR; have dk := zA cz; have fQ := zA cy; clear cz cy; replace dr := eq_true dr; replace dt := eq_true dt; have b9 : 0 ≤ (1 : Int) := zz1n
           have ca : 1 < ((rd_L1 l0 aX).length : Int) := of_decide_eq_true zz1i; obtain ⟨dN, dA, aD⟩ := Kd.at_int dk.out 1 b9 ca; cases dA; (try simp only [show (1 : Int).toNat = 1 from rfl, Nat.reduceMul, Nat.reduceEqDiff, Go.Addr.add, ↓reduceIte] at aD); have oQ : (1 < (rd_L1 l0 aX).length) = True := eq_true zz1n; (try rw [zi1] at aD); replace aD := (HB.out.cell (World.block_lt_of_cell? w _ aD)).trans aD; replace b9 := eq_true b9; replace ca := eq_true ca; obtain ⟨f0, f1, po⟩ := Kd.R_slice cR.out; subst po; go_wp2_with (first | ((with_reducible refine gate_callee (f := 63) rfl ?_); refine goesL_ (some 22) rfl rfl Try.func63 zz1j rfl #[.slice f0 fF.length f1, .int .i64 (rd (rd_L1 l0 aX) 1)] rfl zz0i ?_; (with_reducible refine (spec_l1Has.calls k2 _ _ fF (rd (rd_L1 l0 aX) 1) false _ ?ak ?al kJ.out).mono ?_); (case ak => repeat (first | exact (Kd.R_reads' cR.out).2.2 | refine zP ?_ _ | refine zQ ?_ _ | refine zR ?_)); (case al => exact (Kd.R_reads' cR.out).2.1); rintro e w' ⟨rfl, ⟨nd, rfl⟩⟩; refine ⟨_, rfl, ?_⟩))
           go_roundg k2
           case measure => have := bM.out; have := cN.out; omega
           case rel => exact ⟨(fF), (lS), (wrap64 (aX + 1)), zz16, zz16, H', ⟨zz1b bM cN⟩, ⟨zz12 cR⟩, ⟨zz0y HB⟩⟩
       · rw [if_neg c6] at H; have dq := decide_eq_false c6; clear c6; have H' := zA H; clear H; go_wp2
         go_roundg k2
         case measure => have := bM.out; have := cN.out; omega
         case rel => exact ⟨(fF), (lS), zz16, H', ⟨zz1b bM cN⟩, ⟨zz12 cR⟩, ⟨zz0y HB⟩⟩
   · replace c5 := Bool.eq_false_iff.mpr c5; subst c5; rw [if_neg zFt] at H; obtain rfl := Option.some.inj H; go_wp2; go_ret; exact ⟨_, zz0z, zz12 cR, zz0y HB⟩
def spec_l6Row.l0 : Nat → List Int → List Int → Int → Int → Option (List Int)
 | 0, _, _, _, _ => none
 | k + 1, x5, hv, d5, dS => if dS < d5 then (if 0 ≤ dS then (if dS < (hv.length : Int) then (if (rd hv dS) ≥ 0 then (if x5.length < 17592186044416 then (spec_l6Row.l0 k (x5 ++ [rd hv dS]) hv d5 (wrap64 (dS + 1))) else (none)) else (spec_l6Row.l0 k x5 hv d5 (wrap64 (dS + 1)))) else (none)) else (none)) else (some x5)
def spec_l6Row.f (k : Nat) (ah : Int) (ai : Int) (ab : List (List Int)) (ae : List (List Int)) (ag : List Int) (af : List (List Int)) (a1 : Int) : Option (List Int) := (spec_l6Pairs.f k ah ai ab ae ag af).bind fun aG => ((spec_l6Up.f k aG (([a1] : List Int))).bind fun cb => (spec_l6Row.l0 k ([] : List Int) cb (cb.length : Int) 0))
set_option maxHeartbeats 8000000 in
set_option maxRecDepth 100000 in
theorem spec_l6Row.calls (k : Nat) (ah : Int) (ai : Int) (ay : Option Addr) (ap : Nat) (ab : List (List Int)) (ax : Option Addr) (au : Nat) (ae : List (List Int)) (aq : Option Addr) (ar : Nat) (ag : List Int) (av : Option Addr) (aw : Nat) (af : List (List Int)) (a1 : Int) (r : List Int) (w : World) (bw : Kd.C (Kd.slice 3 (Kd.int .i64)) w ay ab.length ab) (bx : ab.length ≤ ap) (bz : Kd.C (Kd.slice 3 (Kd.int .i64)) w ax ae.length ae) (bA : ae.length ≤ au) (bB : Kd.C (Kd.int .i64) w aq ag.length ag) (bC : ag.length ≤ ar) (bD : Kd.C (Kd.slice 3 (Kd.int .i64)) w av af.length af) (bE : af.length ≤ aw) (h : spec_l6Row.f k ah ai ab ae ag af a1 = some r) :
 Calls Try.prog 56 #[.agg #[.int .i64 ah, .int .i64 ai, .slice ay ab.length ap, .slice ax ae.length au, .slice aq ag.length ar, .slice av af.length aw], .int .i64 a1] w fun e w' => ∃ eQ : Value, e = .returned (eQ) ∧ Kd.R (Kd.int .i64) 3 w' w.heap.size (fun _ => True) eQ r ∧ Below w.heap.size w w' := by
 have hu29 := Try.underlying29; have bm := zA bw; have bF := zA bx; clear bw bx; have bq := zA bz; have bG := zA bA; clear bz bA; have bH := zA bB; have bI := zA bC; clear bB bC; have bJ := zA bD; have bN := zA bE; clear bD bE; have HB := zA (Below.refl w.heap.size w); have H : ((spec_l6Pairs.f k ah ai ab ae ag af).bind fun aG => ((spec_l6Up.f k aG (([a1] : List Int))).bind fun cb => (spec_l6Row.l0 k ([] : List Int) cb (cb.length : Int) 0))) = some r := h; clear h; replace H := Option.bind_eq_some_iff.mp H; obtain ⟨aG, g0, H⟩ := H; have A3 := zA g0; clear g0; obtain ⟨ev, e_y⟩ : ∃ y_ : List Int, y_ = (([a1] : List Int)) := ⟨_, rfl⟩
 replace H : ((spec_l6Up.f k aG ev).bind fun cb => (spec_l6Row.l0 k ([] : List Int) cb (cb.length : Int) 0)) = some r := zz07
 have f6 := zA e_y; clear e_y; replace H := Option.bind_eq_some_iff.mp H; obtain ⟨cb, io, H⟩ := H; have A4 := zA io; clear io; have H' := zA H; clear H; go_enter Try.func56, Try.ntmps56; go_wp2_with (first | ((with_reducible refine gate_dst (N := 2) rfl ?_); refine box_event ?hg (N := 2) ?hd (cs := #[.int .i64 ah, .int .i64 ai, .slice ay ab.length ap, .slice ax ae.length au, .slice aq ag.length ar, .slice av af.length aw]) (t := 29) ?hr ?_; (case hd => rfl); (case hg => rfl); (case hr => first | (go_simp; done) | (go_simp; rfl)); intro ad hg w5 hbox hb; have aa := zA (hbox); have ce := zA ((by rw [hg]; exact (zF (zz0y HB)) : w.heap.size ≤ ad)); have ac := zA ((by rw [hg]; exact (zF (zz0y HB)) : w.heap.size ≤ ad)); replace HB := zA (zG (zz0y HB) hb); clear hb hbox hg; obtain ⟨gS, gT, gU, gV, gW, gX⟩ := zk6 aa.out; have hfz6_5 := zL aa.out 5) | ((with_reducible refine gate_callee (f := 51) rfl ?_); refine goesL_ (some 9) rfl rfl Try.func51 zz1j rfl #[.agg #[.int .i64 ah, .int .i64 ai, .slice ay ab.length ap, .slice ax ae.length au, .slice aq ag.length ar, .slice av af.length aw]] rfl zz0i ?_; (with_reducible refine (spec_l6Pairs.calls k ah ai _ _ ab _ _ ae _ _ ag _ _ af aG _ ?ak ?al ?aJ ?aK ?be ?bf ?bg ?bh A3.out).mono ?_); (case ak => exact (zz11 bm HB)); (case al => exact bF.out); (case aJ => exact (zz11 bq HB)); (case aK => exact bG.out); (case be => exact (zz11 bH HB)); (case bf => exact bI.out); (case bg => exact (zz11 bJ HB)); (case bh => exact bN.out); rintro e w7 ⟨eP, rfl, b7, hb⟩; refine ⟨_, rfl, ?_⟩; have cU := zA (Kd.V_lower (Kd.V_mono (ok' := fun k_ => k_ ≠ ad) b7 (fun k_ hk_ => (Kd.freshB (g := ad) (o := .cells #[.int .i64 ah, .int .i64 ai, .slice ay ab.length ap, .slice ax ae.length au, .slice aq ag.length ar, .slice av af.length aw] 29 (0, 0)) (zz10 aa) k_ hk_))) (zF (zz0p HB ac))); replace aa := zA (zMp aa.out hb); replace HB := zA (zG (zz0p HB ac) hb); (try clear hb); (try clear hb2); (try clear hk); (try clear hi); (try clear b7)) | ((with_reducible refine gate_dst (N := 11) rfl ?_); refine Kd.R_lit (Kd.int .i64) _ 3 ?hg (N := 11) ?hd (xs := ([a1] : List Int)) (inner := [.int .i64 a1]) (ok := fun _ => True) (okp := fun _ => True) ?hr ?hp (fun _ hk => hk) trivial (Below.refl _ _) (Nat.le_refl _) zz1o ?_; (case hd => rfl); (case hg => rfl); (case hr => first | (go_simp; done) | (go_simp; rfl)); (case hp => exact (Reps.one (show Kd.M (Kd.int .i64) _ _ _ a1 [.int .i64 a1] from rfl) (Reps.none _ _))); intro kj w8 l3 hb hg_ hnew_; clear hg_ hnew_; (first | rw [← f6.out] at l3 | (simp only [Int.reduceToNat] at l3; rw [← f6.out] at l3)); replace cU := zA (Kd.V_elder' (zz0w cU) (Kd.R_base l3) hb); have dM := zA (Kd.R_lower l3 (zF (zz0p HB ac))); replace aa := zA (zMp aa.out hb); replace HB := zA (zG (zz0p HB ac) hb); clear hb l3; obtain ⟨nW, kk, ly⟩ := Kd.V_slice cU.out; subst ly; obtain ⟨ie, ig, m7⟩ := Kd.R_slice dM.out; subst m7) | ((with_reducible refine gate_callee (f := 60) rfl ?_); refine goesL_ (some 12) rfl rfl Try.func60 zz1j rfl #[.slice nW aG.length kk, .slice ie ev.length ig] rfl zz0i ?_; (with_reducible refine (spec_l6Up.calls k _ _ aG _ _ ev cb _ ?ak ?al ?aJ ?aK A4.out).mono ?_); (case ak => repeat (first | exact (Kd.V_reads' cU.out).2.2 | refine zP ?_ _ | refine zQ ?_ _ | refine zR ?_)); (case al => exact (Kd.V_reads' cU.out).2.1); (case aJ => repeat (first | exact (Kd.R_reads' dM.out).2.2 | refine zP ?_ _ | refine zQ ?_ _ | refine zR ?_)); (case aK => exact (Kd.R_reads' dM.out).2.1); rintro e lZ ⟨rh, rfl, b7, hb⟩; refine ⟨_, rfl, ?_⟩; replace cU := zA (Kd.V_elder' (zz0w cU) (Kd.R_base b7) hb); have ih := zA (Kd.R_lower (Kd.R_new' b7 (Kd.R_lt (zz12 dM))) (zF (zz0p HB ac))); replace dM := zA (Kd.R_elder' (zz12 dM) (Kd.R_base b7) hb); replace aa := zA (zMp aa.out hb); replace HB := zA (zG (zz0p HB ac) hb); (try clear hb); (try clear hb2); (try clear hk); (try clear hi); (try clear b7); obtain ⟨lQ, kK, mR⟩ := Kd.R_slice ih.out; subst mR)); go_loopg [5, 14] k (fun kq v5 nQ w' => ∃ (ao : List Int) (ct : Int), nQ = .int .i64 ct ∧ Aside0 (spec_l6Row.l0 kq ao cb (cb.length : Int) ct = some r) ∧ Aside0 (kq ≤ k) ∧ Aside0 (Kd.R (Kd.int .i64) 3 w' w.heap.size (fun k_ => some k_ ≠ ((.slice lQ cb.length kK) : Value).ownBlock) v5 ao) ∧ Aside0 (Kd.R (Kd.int .i64) 3 w' w.heap.size (fun k_ => some k_ ≠ (v5 : Value).ownBlock) (.slice lQ cb.length kK) cb) ∧ Aside0 (w'.heap[ad]? = some (.cells #[.int .i64 ah, .int .i64 ai, (.slice ay ab.length ap), (.slice ax ae.length au), (.slice aq ag.length ar), (.slice av af.length aw)] 29 (0, 0))) ∧ Aside0 (Below w.heap.size w w'))
 case atStart => exact ⟨(([] : List Int)), (0), zz16, H', ⟨Nat.le_refl _⟩, ⟨zz0h⟩, ⟨by (with_reducible repeat (first | apply zT | apply zU | apply zV)); exact Kd.R_mono ih.out (fun _ hk => (by simp [Value.ownBlock]))⟩, ⟨zz10 aa⟩, ⟨zz0p HB ac⟩⟩
 case round =>
  clear H'; (try clear p2); (try clear c5); (try clear c6); (try clear gS); (try clear gT); (try clear gU); (try clear gV); (try clear gW); (try clear gX); obtain ⟨ao, ct, rfl, HA, bM, cR, ii, aa, HB⟩ := hrel; cases gk with
  | zero => exact absurd HA.out (by simp [spec_l6Row.l0])
  | succ k1 =>
   have H := HA.out; clear HA; simp only [spec_l6Row.l0] at H; by_cases ip : ct < (cb.length : Int)
   · rw [if_pos ip] at H; have jA := decide_eq_true ip; clear ip; replace H := zIn H; obtain ⟨f7, H⟩ := H; have f8 : decide (0 ≤ ct) = true := decide_eq_true f7; clear f7; replace H := zIn H; obtain ⟨gM, H⟩ := H; have ix : decide (ct < (cb.length : Int)) = true := decide_eq_true gM; clear gM; by_cases f5 : (rd cb ct) ≥ 0
     · rw [if_pos f5] at H; have hf : decide (0 ≤ (rd cb ct)) = true := decide_eq_true f5; clear f5; replace H := zIn H; obtain ⟨gP, H⟩ := H; have mL := zA gP; clear gP; obtain ⟨hQ, e_y⟩ : ∃ y_ : List Int, y_ = (ao ++ [rd cb ct]) := ⟨_, rfl⟩
       replace H : (spec_l6Row.l0 k1 hQ cb (cb.length : Int) (wrap64 (ct + 1))) = some r := zz07
       have jR := zA e_y; clear e_y; have H' := zA H; clear H; have hx : 0 ≤ (ct : Int) := of_decide_eq_true zz1i; have hy : ct < (cb.length : Int) := of_decide_eq_true zz1i; obtain ⟨m8, m9, jp⟩ := Kd.at_int (Kd.R_reads' ii.out).2.2 ct hx hy; cases m9; replace hx := eq_true hx; replace hy := eq_true hy; go_wp2_with (first | ((with_reducible refine gate_builtin (b := .append) (xs := #[.tmp 20, .tmp 22]) rfl ?_); at_builtin; refine Kd.R_append (Kd.int .i64) (w0 := w) w.heap.size rfl (.tmp 20) (.tmp 22) 23 3 (.int .i64 0) 8 rfl Try.underlying23 info3 rfl zz1m zz1n u5 ao (rd cb ct) [.int .i64 (rd cb ct)] (fun k_ => some k_ ≠ (.slice (some m8) cb.length kK : Value).ownBlock) (fun _ => False) rfl rfl ?aP (fun _ hk => hk.elim) ?aF ?aO ?aB ?aS ?aL ?_; (case aP => exact rfl); (case aB => exact (zz0p HB ac)); (case aF => exact (fun k_ hk => Kd.fresh' (Kd.R_lt (zz12 ii)) k_ hk)); (case aO => exact (zz12 cR)); (case aS => exact (zF (zz0p HB ac))); (case aL => have := mL.out; omega); intro v113 qu ho hb hg hat; rw [← jR.out] at ho; replace ii := zA (Kd.R_after (ok := (fun _ => True)) (by (with_reducible repeat (first | apply zT | apply zU | apply zV)); exact Kd.R_mono ii.out (fun _ hk => ⟨trivial, hk⟩)) hg hat); replace aa := zA (blk_grown (g := ad) (o := .cells #[.int .i64 ah, .int .i64 ai, .slice ay ab.length ap, .slice ax ae.length au, .slice aq ag.length ar, .slice av af.length aw] 29 (0, 0)) (zz10 aa) hg (Kd.R_ne cR.out aa.out zz1m)); replace HB := zA (hb); have iB := zA (ho); clear cR; clear ho hb hg hat))
       go_roundg k1
       case measure => have := bM.out; omega
       case rel => exact ⟨(hQ), (wrap64 (ct + 1)), zz16, H', ⟨zz1e bM⟩, ⟨zz12 iB⟩, ⟨by (with_reducible repeat (first | apply zT | apply zU | apply zV)); exact Kd.R_mono ii.out (fun _ hk => hk.2)⟩, ⟨zz10 aa⟩, ⟨zz0p HB ac⟩⟩
     · rw [if_neg f5] at H; have hf : decide (0 ≤ (rd cb ct)) = false := decide_eq_false f5; clear f5; have H' := zA H; clear H; have hx : 0 ≤ (ct : Int) := of_decide_eq_true zz1i; have hy : ct < (cb.length : Int) := of_decide_eq_true zz1i; obtain ⟨m8, m9, jp⟩ := Kd.at_int (Kd.R_reads' ii.out).2.2 ct hx hy; cases m9; replace hx := eq_true hx; replace hy := eq_true hy; go_wp2
       go_roundg k1
       case measure => have := bM.out; omega
       case rel => exact ⟨(ao), (wrap64 (ct + 1)), zz16, H', ⟨zz1e bM⟩, ⟨zz12 cR⟩, ⟨zz12 ii⟩, ⟨zz10 aa⟩, ⟨zz0p HB ac⟩⟩
   · rw [if_neg ip] at H; have jA := decide_eq_false ip; clear ip; obtain rfl := Option.some.inj H; go_wp2; go_ret; exact ⟨_, zz0z, zz0q cR, zz0p HB ac⟩
end Go.Proofs.Ytkocahlifffgjaa.P
namespace Go.Proofs.Ytkocahlifffgjaa.P
open Go.RowKit Go.Proofs.YtkocahlifffgjaaW.PrintWords
set_option linter.unusedVariables false
set_option linter.unusedSimpArgs false
structure UuI (m n : Nat) (ps : List (List Int)) (es : List Int) (out : List Int) : Prop where
 up : UpI out
 rg : ∀ x, x ∈ out → -(m : Int) ≤ x ∧ x < n
 lo : ∀ x, x ∈ es → x ∈ out
 hi : ∀ x, x ∈ out → UpR ps (· ∈ es) x
theorem UuI.len {m n : Nat} {ps : List (List Int)} {es out : List Int} (h : UuI m n ps es out) : out.length ≤ m + n := by
 have := upI_len out (-(m : Int)) n h.up h.rg zz1n; omega
theorem UuI.put {m n : Nat} {ps : List (List Int)} {es out : List Int} (h : UuI m n ps es out) {p : List Int} (hp : p ∈ ps) (h0 : 0 ≤ rd p 0 ∧ rd p 0 < n) (h1 : rd p 1 ∈ out) : UuI m n ps es (putI out (rd p 0)) :=
 ⟨upI_put _ _ h.up, fun x hx => by
  rcases (mem_putI _ _ _).1 hx with e | e
  · rw [e]; omega
  · exact h.rg x e, fun x hx => (mem_putI _ _ _).2 (.inr (h.lo x hx)), fun x hx => by
  rcases (mem_putI _ _ _).1 hx with e | e
  · rw [e]; exact .step hp (h.hi _ h1)
  · exact h.hi x e⟩
theorem UuI.fin {m n : Nat} {ps : List (List Int)} {es out : List Int} (h : UuI m n ps es out) (hc : ∀ p, p ∈ ps → rd p 1 ∈ out → rd p 0 ∈ out) (x : Int) : x ∈ out ↔ UpR ps (· ∈ es) x :=
 ⟨h.hi x, fun hx => hx.least (T := fun x => x ∈ out) h.lo hc⟩
structure UpP (m n : Nat) (ps : List (List Int)) (es : List Int) (m0 i : Nat) (out : List Int) (more : Bool) : Prop where
 ui : UuI m n ps es out
 le : m0 ≤ out.length
 lt : more = true → m0 < out.length
 cl : more = false → ∀ p, fstOf ps i p → rd p 1 ∈ out → rd p 0 ∈ out
section
variable {m n : Nat} (hn : n ≤ 40) (hm : m ≤ 40) {ps : List (List Int)} {es : List Int} (hps : PairsIn n ps) (hpl : ps.length ≤ 9223372036854775807)
include hn hm hps hpl
theorem sup_l1 (X : List Int) (m0 : Nat) (h0 : ∀ out more, UpP m n ps es m0 ps.length out more → Ev (fun k => spec_l6Up.l0 k ps out more) X) (d : Nat) : ∀ (i : Nat) (out : List Int) (more : Bool), i ≤ ps.length → ps.length - i = d → UpP m n ps es m0 i out more →
 Ev (fun k => spec_l6Up.l1 k ps out more ps ps.length i) X := by
 induction d with
 | zero =>
  intro i out more h1 hd hp; have ei : i = ps.length := by omega
  subst ei; obtain ⟨K, h⟩ := h0 out more hp; dsimp only at h; refine ⟨K + 1, fun k hk => ?_⟩; dsimp only; obtain ⟨k, rfl⟩ : ∃ m, k = m + 1 := ⟨k - 1, zz1n⟩
  simp only [spec_l6Up.l1]; rw [if_neg zz1n]; exact h k zz1n
 | succ d ih =>
  intro i out more h1 hd hp; have hil : i < ps.length := by omega
  have hlen := hp.ui.len; have hmem : rd_L1 ps i ∈ ps := by unfold rd_L1; rw [Int.toNat_natCast, List.getD_eq_getElem?_getD, List.getElem?_eq_getElem hil]; exact List.getElem_mem hil
  have ew : wrap64 ((i : Int) + 1) = ((i + 1 : Nat) : Int) := wsuccL hil hpl; have eg : ps.getD i [] = rd_L1 ps i := rfl; obtain ⟨y2, y0, y1⟩ := hps _ hmem; have skip : (rd (rd_L1 ps i) 1 ∈ out → rd (rd_L1 ps i) 0 ∈ out) → Ev (fun k => spec_l6Up.l1 k ps out more ps ps.length (wrap64 ((i : Int) + 1))) X := fun hc => by
   rw [ew]; exact ih (i + 1) out more zz1n zz1n ⟨hp.ui, hp.le, hp.lt, fun hm p hf => (fstOf_succ hf).elim (hp.cl hm p) (fun e => by rw [e, eg]; exact hc)⟩
  have put : rd (rd_L1 ps i) 0 ∉ out → rd (rd_L1 ps i) 1 ∈ out → Ev (fun k => spec_l6Up.l1 k ps (putI out (rd (rd_L1 ps i) 0)) true ps ps.length (wrap64 ((i : Int) + 1))) X := fun hn h1 => by
   rw [ew]; have hl := putI_len_new out _ hn; have := hp.le; exact ih (i + 1) _ true zz1n zz1n ⟨hp.ui.put hmem y0 h1, zz1n, fun _ => by omega, fun e => by cases e⟩
  obtain ⟨y, hy⟩ : ∃ y, y = rd_L1 ps i := ⟨_, rfl⟩
  rw [← hy] at y2 skip put; by_cases c1 : rd y 1 ∈ out
  · by_cases c0 : rd y 0 ∈ out
    · obtain ⟨K, h⟩ := skip (fun _ => c0); dsimp only at h; refine ⟨K + 100, fun k hk => ?_⟩; dsimp only; obtain ⟨k, rfl⟩ : ∃ m, k = m + 1 := ⟨k - 1, zz1n⟩
      simp only [spec_l6Up.l1]; rw [if_pos zz1n, if_pos zz1n, if_pos zz1n, ← hy, if_pos zz1n, has_eq out _ zz1n k zz1n, has_eq out _ zz1n k zz1n, decide_eq_true c1, decide_eq_true c0]; simp only [Option.bind_some]; rw [if_pos trivial, if_pos zz1n, if_pos trivial]; exact h k zz1n
    · obtain ⟨K, h⟩ := put c0 c1; dsimp only at h; refine ⟨K + 100, fun k hk => ?_⟩; dsimp only; obtain ⟨k, rfl⟩ : ∃ m, k = m + 1 := ⟨k - 1, zz1n⟩
      simp only [spec_l6Up.l1]; rw [if_pos zz1n, if_pos zz1n, if_pos zz1n, ← hy, if_pos zz1n, has_eq out _ zz1n k zz1n, has_eq out _ zz1n k zz1n, decide_eq_true c1, decide_eq_false c0, put_eq out _ zz1n k zz1n]; simp only [Option.bind_some]; rw [if_pos trivial, if_pos zz1n, if_neg zz1m]; exact h k zz1n
  · obtain ⟨K, h⟩ := skip (fun e => absurd e c1); dsimp only at h; refine ⟨K + 100, fun k hk => ?_⟩; dsimp only; obtain ⟨k, rfl⟩ : ∃ m, k = m + 1 := ⟨k - 1, zz1n⟩
    simp only [spec_l6Up.l1]; rw [if_pos zz1n, if_pos zz1n, if_pos zz1n, ← hy, if_pos zz1n, has_eq out _ zz1n k zz1n, decide_eq_false c1]; simp only [Option.bind_some]; rw [if_neg zz1m]; exact h k zz1n
theorem sup_l0 (X : List Int) (hX : UpI X) (hXm : ∀ x, x ∈ X ↔ UpR ps (· ∈ es) x) (d : Nat) : ∀ out : List Int, UuI m n ps es out → m + n - out.length ≤ d →
 Ev (fun k => spec_l6Up.l0 k ps out true) X := by
 induction d with
 | zero =>
  intro out h hd; refine (Ev.step (f := fun k => spec_l6Up.l1 k ps out false ps ps.length 0) (fun k => by simp only [spec_l6Up.l0]; rw [if_pos trivial]) ?_); refine sup_l1 hn hm hps hpl X out.length (fun out2 m2 h2 => ?_) ps.length 0 out false (Nat.zero_le _) rfl ⟨h, Nat.le_refl _, (fun e => by cases e), fun _ l ⟨j, hj, _⟩ => by omega⟩; cases m2 with
  | true => have a1 := h2.lt rfl; have a2 := h2.ui.len; omega
  | false =>
   refine ⟨1, fun k hk => ?_⟩; dsimp only; obtain ⟨k, rfl⟩ : ∃ m, k = m + 1 := ⟨k - 1, zz1n⟩
   simp only [spec_l6Up.l0]; rw [if_neg zz1m, upI_ext h2.ui.up hX fun x => (h2.ui.fin (fun p hp => h2.cl rfl p (fstOf_all hp (Nat.le_refl _))) x).trans (hXm x).symm]
 | succ d ih =>
  intro out h hd; refine (Ev.step (f := fun k => spec_l6Up.l1 k ps out false ps ps.length 0) (fun k => by simp only [spec_l6Up.l0]; rw [if_pos trivial]) ?_); refine sup_l1 hn hm hps hpl X out.length (fun out2 m2 h2 => ?_) ps.length 0 out false (Nat.zero_le _) rfl ⟨h, Nat.le_refl _, (fun e => by cases e), fun _ l ⟨j, hj, _⟩ => by omega⟩; cases m2 with
  | true => exact ih out2 h2.ui (by have a1 := h2.lt rfl; omega)
  | false =>
   refine ⟨1, fun k hk => ?_⟩; dsimp only; obtain ⟨k, rfl⟩ : ∃ m, k = m + 1 := ⟨k - 1, zz1n⟩
   simp only [spec_l6Up.l0]; rw [if_neg zz1m, upI_ext h2.ui.up hX fun x => (h2.ui.fin (fun p hp => h2.cl rfl p (fstOf_all hp (Nat.le_refl _))) x).trans (hXm x).symm]
theorem l6Up_ev (hup : UpI es) (hrg : ∀ x, x ∈ es → -(m : Int) ≤ x ∧ x < n) (X : List Int) (hX : UpI X) (hXm : ∀ x, x ∈ X ↔ UpR ps (· ∈ es) x) : Ev (fun k => spec_l6Up.f k ps es) X := by
 have hu : UuI m n ps es es := ⟨hup, hrg, fun x h => h, fun x h => .base h⟩
 have hl := hu.len; obtain ⟨K, h⟩ := sup_l0 hn hm hps hpl X hX hXm (m + n) es hu zz1n; dsimp only at h; refine ⟨K, fun k hk => ?_⟩; dsimp only; unfold spec_l6Up.f; rw [own_eq es zz1n]; exact h k hk
omit hn hm hps hpl in
theorem upI_cons_neg {x : Int} (hx : x < 0) {l : List Int} (h : UpI l) (h0 : ∀ z, z ∈ l → 0 ≤ z) : UpI (x :: l) := List.pairwise_cons.2 ⟨fun z hz => by have := h0 z hz; omega, h⟩
omit hn hm hps hpl in
def upU (n : Nat) (ps : List (List Int)) (x : Int) : List Int := (if x < 0 then [x] else []) ++ rowU n ps x
omit hn hm hpl in
theorem mem_upU {x : Int} (hx : x < n) (z : Int) : z ∈ upU n ps x ↔ UpR ps (· = x) z := by
 unfold upU; rw [List.mem_append, mem_rowU hps hx]; constructor
 · rintro (h | h)
   · by_cases c : x < 0
     · rw [if_pos c, List.mem_singleton] at h; exact .base h
     · rw [if_neg c] at h; cases h
   · exact h.2
 · intro h; rcases upR_lt hps h with e | e
   · subst e; by_cases c : z < 0
     · left; rw [if_pos c]; exact List.mem_singleton.2 rfl
     · exact .inr ⟨zz1n, h⟩
   · exact .inr ⟨e.1, h⟩
omit hn hm hpl in
theorem upU_up {x : Int} (hx : x < n) : UpI (upU n ps x) := by
 unfold upU; by_cases c : x < 0
 · rw [if_pos c]; exact upI_cons_neg c (rowU_up n ps x) fun z hz => ((mem_rowU hps hx z).1 hz).1
 · rw [if_neg c]; exact rowU_up n ps x
theorem l6Up_one {x : Int} (hx : -(m : Int) ≤ x ∧ x < n) : Ev (fun k => spec_l6Up.f k ps [x]) (upU n ps x) :=
 l6Up_ev hn hm hps hpl (List.pairwise_singleton _ _) (fun z hz => by rw [List.mem_singleton.1 hz]; exact hx) _ (upU_up hps hx.2) (fun z => (mem_upU hps hx.2 z).trans ⟨fun h => h.mono fun z e => List.mem_singleton.2 e, fun h => h.mono fun z e => List.mem_singleton.1 e⟩)
end
theorem l6Row_loop (l : List Int) (hl : l.length < 17592186044416) (d : Nat) : ∀ (k i : Nat) (out : List Int), i ≤ l.length → l.length - i = d → d < k → out.length + d < 17592186044416 →
 spec_l6Row.l0 k out l l.length i = some (out ++ (l.drop i).filter fun z => decide (0 ≤ z)) := by
 induction d with
 | zero =>
  intro k i out h1 hd hk ho; obtain ⟨k, rfl⟩ : ∃ m, k = m + 1 := ⟨k - 1, zz1n⟩
  simp only [spec_l6Row.l0]; rw [if_neg zz1n, List.drop_of_length_le zz1n]; simp
 | succ d ih =>
  intro k i out h1 hd hk ho; obtain ⟨k, rfl⟩ : ∃ m, k = m + 1 := ⟨k - 1, zz1n⟩
  have ed : l.drop i = rd l i :: l.drop (i + 1) := getD_drop l i 0 zz1n; simp only [spec_l6Row.l0]; rw [if_pos zz1n, if_pos zz1n, if_pos zz1n, wsuccL (show i < l.length by omega) zz1n]; by_cases c : 0 ≤ rd l i
  · rw [if_pos c, if_pos zz1n, ih k (i + 1) _ zz1n zz1n zz1n (by rw [List.length_append]; simp; omega), ed, List.filter_cons_of_pos (by simpa using c)]; simp
  · rw [if_neg c, ih k (i + 1) _ zz1n zz1n zz1n zz1n, ed, List.filter_cons_of_neg (by simpa using c)]
theorem pairsU_in {n : Nat} {toks : Int} {ps os : List (List Int)} {es : List Int} (ok : OkB (n : Int) toks ps os es) : PairsIn n (pairsU n es os ps) := fun p hp => by
 obtain ⟨e1, e2, e3⟩ := pairsU_ok ok hp; exact ⟨e1, e2, e3.2⟩
theorem l6Row_ev {n : Nat} {toks : Int} {ps os : List (List Int)} {es : List Int} {fs : List (List Int)} (ok : OkB (n : Int) toks ps os es) (hp : ps.length ≤ 1048576) (ho : os.length ≤ 1048576) {x : Int} (hx : -toks ≤ x ∧ x < n) : Ev (fun k => spec_l6Row.f k (n : Int) toks ps os es fs x) (rowU n (pairsU n es os ps) x) := by
 have h40 := ok.n; have h4 := ok.t; have hP := pairsU_in ok; have hPl := pairsU_len n es os ps; obtain ⟨K, h⟩ := l6Pairs_ev (fs := fs) ok hp ho; obtain ⟨K2, h2⟩ := l6Up_one (m := toks.toNat) zz1n zz1n hP zz1n (x := x) zz1n; dsimp only at h h2; have hlen : (upU n (pairsU n es os ps) x).length ≤ n + 1 := by
  have := rowU_len hP hx.2; unfold upU; rw [List.length_append]; by_cases c : x < 0
  · rw [if_pos c]; simp; omega
  · rw [if_neg c]; simp; omega
 have ef : ((upU n (pairsU n es os ps) x).filter fun z => decide (0 ≤ z)) = rowU n (pairsU n es os ps) x := by
  unfold upU; rw [List.filter_append, List.filter_eq_self.2 fun z hz => decide_eq_true ((mem_rowU hP hx.2 z).1 hz).1]; by_cases c : x < 0
  · rw [if_pos c, List.filter_cons_of_neg (by simpa using c)]; simp
  · rw [if_neg c]; simp
 refine ⟨K + K2 + (n + 10), fun k hk => ?_⟩; dsimp only; unfold spec_l6Row.f; rw [h k zz1n]; simp only [Option.bind_some]; rw [h2 k zz1n]; simp only [Option.bind_some]; have := l6Row_loop (upU n (pairsU n es os ps) x) zz1n _ k 0 [] (Nat.zero_le _) rfl zz1n (by simp; omega); rw [List.drop_zero, List.nil_append, ef] at this; exact this
end Go.Proofs.Ytkocahlifffgjaa.P
namespace Go.Proofs.Ytkocahlifffgjaa.P
open Go.RowKit Go.Proofs.YtkocahlifffgjaaW.PrintWords Go.Proofs.YtkocahlifffgjaaW.PrintLast Go.Proofs.YtkocahlifffgjaaW.PrintMore
attribute [local go_sem] max2_int min2_int max_two min_two max_three min_three max_four min_four
set_option linter.unusedVariables false
set_option linter.unusedSimpArgs false
def laws_heldIntSS.l0 : Nat → List (List Int) → Int → Int → Option (Int)
 | 0, _, _, _ => none
 | k + 1, x0, x1, x5 => if x5 < (x0.length : Int) then (if 0 ≤ x5 then ((laws_heldIntS.f k (rd_L1 x0 x5) x1).bind fun aG => (if aG < 0 then (some (-1)) else (laws_heldIntSS.l0 k x0 aG (wrap64 (x5 + 1))))) else (none)) else (some x1)
def laws_heldIntSS.f (k : Nat) (l0 : List (List Int)) (a1 : Int) : Option (Int) := laws_heldIntSS.l0 k l0 a1 0
end Go.Proofs.Ytkocahlifffgjaa.P
namespace Go.Proofs.Ytkocahlifffgjaa.P
open Go.RowKit Go.Proofs.YtkocahlifffgjaaW.PrintWords Go.Proofs.YtkocahlifffgjaaW.PrintLast Go.Proofs.YtkocahlifffgjaaW.PrintMore
set_option linter.unusedVariables false
set_option linter.unusedSimpArgs false
def szRows : List (List Int) → Nat
 | [] => 0
 | r :: l => r.length + szRows l
def mkRows : List (List Int) → Int → List (List Int)
 | [], _ => []
 | r :: l, a => ramp a r.length :: mkRows l (a + r.length)
def szB (l2 l3 : List (List Int)) (l4 : List Int) (l5 : List (List Int)) : Nat := szRows l2 + szRows l3 + l4.length + szRows l5
def mkB0 (l2 l3 : List (List Int)) (l4 : List Int) (l5 : List (List Int)) (k : Int) : List (List Int) := mkRows l2 k
def mkB1 (l2 l3 : List (List Int)) (l4 : List Int) (l5 : List (List Int)) (k : Int) : List (List Int) := mkRows l3 (k + szRows l2)
def mkB2 (l2 l3 : List (List Int)) (l4 : List Int) (l5 : List (List Int)) (k : Int) : List Int := ramp (k + szRows l2 + szRows l3) l4.length
def mkB3 (l2 l3 : List (List Int)) (l4 : List Int) (l5 : List (List Int)) (k : Int) : List (List Int) := mkRows l5 (k + szRows l2 + szRows l3 + l4.length)
structure UrS (w2 W : World) (bm : Nat) (D : DataW Value) (S : List Int) (u6 u8 : Value) (out todo : List Int) : Prop where
 below : Below w2.heap.size w2 W
 ho : Kd.R (Kd.int .i64) 3 W w2.heap.size (fun k => True ∧ some k ≠ u8.ownBlock) u6 out
 hq : Kd.Q (Kd.int .i64) 3 W w2.heap.size (fun k => True ∧ some k ≠ u6.ownBlock) u8 todo
 ow : W.ownsMap Try.prog 3 asIs bm S.length D
 ge : w2.heap.size ≤ bm
 ms : MapS D S
section
variable {w2 W V : World} {bm : Nat} {D : DataW Value} {S out todo : List Int} {u6 u8 : Value}
theorem ownsMap_ne {base e : Nat} {ok : Nat → Prop} {v : Value} {xs : List Int} {n : Nat} (h : W.ownsMap Try.prog 3 asIs bm n D) (hr : ∀ k, v.ownBlock = some k → ∃ cells, W.heap[k]? = some (.cells cells e (0, 0))) : some bm ≠ v.ownBlock := fun he => by
 obtain ⟨cells, hc⟩ := hr bm he.symm; obtain ⟨es, clock, hb, _⟩ := h; rw [hb] at hc; cases hc
theorem Q_typed {base e : Nat} {ok : Nat → Prop} {v : Value} {xs : List Int} (h : Kd.Q (Kd.int .i64) e W base ok v xs) : ∀ k, v.ownBlock = some k → ∃ cells, W.heap[k]? = some (.cells cells e (0, 0)) := fun k hk => by
 obtain ⟨_, _, _, q, hq, cells, hc⟩ := (Kd.Q_bound h).1 k hk; rw [show q = e from by simpa [Kd.int, Kd.scalar] using hq] at hc; exact ⟨cells, hc⟩
theorem UrS.mo (h : UrS w2 W bm D S u6 u8 out todo) : some bm ≠ u6.ownBlock := ownsMap_ne (base := 0) (ok := fun _ => True) (xs := []) h.ow (Kd.R_typed h.ho)
theorem UrS.mq (h : UrS w2 W bm D S u6 u8 out todo) : some bm ≠ u8.ownBlock := ownsMap_ne (base := 0) (ok := fun _ => True) (xs := []) h.ow (Q_typed h.hq)
theorem UrS.newo (h : UrS w2 W bm D S u6 u8 out todo) : ∀ k, W.heap.size ≤ k → True ∧ some k ≠ u8.ownBlock := fun k hk => ⟨trivial, fun e => by have := Kd.Q_lt h.hq k e.symm; omega⟩
theorem UrS.newq (h : UrS w2 W bm D S u6 u8 out todo) : ∀ k, W.heap.size ≤ k → True ∧ some k ≠ u6.ownBlock := fun k hk => ⟨trivial, fun e => by have := Kd.R_lt h.ho k e.symm; omega⟩
theorem UrS.addo (h : UrS w2 W bm D S u6 u8 out todo) {v1 : Value} {out' : List Int} (ho : Kd.R (Kd.int .i64) 3 V w2.heap.size (fun k => True ∧ some k ≠ u8.ownBlock) v1 out') (hb : Below w2.heap.size w2 V) (hg : W.grownBy V u6.ownBlock) (hat : v1.ownBlock = u6.ownBlock ∨ ∃ b, v1.ownBlock = some b ∧ W.heap.size ≤ b) : UrS w2 V bm D S v1 u8 out' todo :=
 ⟨hb, ho, Kd.Q_after h.hq hg hat, h.ow.kept hg h.mo, h.ge, h.ms⟩
theorem UrS.addq (h : UrS w2 W bm D S u6 u8 out todo) {v1 : Value} {todo' : List Int} (hq : Kd.Q (Kd.int .i64) 3 V w2.heap.size (fun k => True ∧ some k ≠ u6.ownBlock) v1 todo') (hb : Below w2.heap.size w2 V) (hg : W.grownBy V u8.ownBlock) (hat : v1.ownBlock = u8.ownBlock ∨ ∃ b, v1.ownBlock = some b ∧ W.heap.size ≤ b) : UrS w2 V bm D S u6 v1 out todo' :=
 ⟨hb, Kd.R_after h.ho hg hat, hq, h.ow.kept hg h.mq, h.ge, h.ms⟩
theorem UrS.cut (h : UrS w2 W bm D S u6 u8 out todo) {v1 : Value} {todo' : List Int} (hv : v1.ownBlock = u8.ownBlock ∨ v1.ownBlock = none) (hq : Kd.Q (Kd.int .i64) 3 W w2.heap.size (fun k => True ∧ some k ≠ u6.ownBlock) v1 todo') : UrS w2 W bm D S u6 v1 out todo' :=
 ⟨h.below, Kd.R_mono h.ho (fun k hk => ⟨trivial, fun e => by
  rcases hv with e2 | e2
  · exact hk.2 (e.trans e2)
  · rw [e2] at e; cases e⟩), hq, h.ow, h.ge, h.ms⟩
theorem UrS.seen (h : UrS w2 W bm D S u6 u8 out todo) {y : Int} (ow : V.ownsMap Try.prog 3 asIs bm (S.length + 1) (D.put (.int .i64 y) (.held (.bool true)))) (hg : W.grownBy V (some bm)) : UrS w2 V bm (D.put (.int .i64 y) (.held (.bool true))) (S ++ [y]) u6 u8 out todo :=
 ⟨h.below.grown hg (zF h.below) (fun k hk => by injection hk with hk; rw [← hk]; exact h.ge), Kd.R_grown (Kd.R_tight zz1p h.ho |> fun h2 => Kd.R_mono h2 (fun k hk => (⟨h.ho.1 k hk.symm, hk⟩ : (True ∧ some k ≠ u8.ownBlock) ∧ some k = u6.ownBlock))) hg (fun k hk e => h.mo (e.symm.trans hk.2)) |> fun h2 => Kd.R_mono h2 (fun k hk => hk.1), Kd.Q_grown2 h.hq zz1p hg (fun k hk => by injection hk with hk; rw [← hk]; exact h.mq), by rw [List.length_append]; exact ow, h.ge, mapS_put h.ms y⟩
end
theorem filter_one (z : Int) : [z].filter (fun z => decide (0 ≤ z)) = if 0 ≤ z then [z] else [] := by
 by_cases c : 0 ≤ z
 · rw [if_pos c]; simp [c]
 · rw [if_neg c]; simp [c]
theorem int_wf {z : Int} (h1 : -9223372036854775808 ≤ z) (h2 : z ≤ 9223372036854775807) : (Lit.int .i64 z).wf = true := by
 have e1 : IntKind.i64.min = -9223372036854775808 := by decide
 have e2 : IntKind.i64.max = 9223372036854775807 := by decide
 show (decide (IntKind.i64.min ≤ z) && decide (z ≤ IntKind.i64.max)) = true; rw [e1, e2, decide_eq_true h1, decide_eq_true h2]; rfl
set_option maxRecDepth 100000 in
theorem seen_look {W : World} {bm n : Nat} {D : DataW Value} {S : List Int} (ow : W.ownsMap Try.prog 3 asIs bm n D) (ms : MapS D S) {z : Int} (h1 : -9223372036854775808 ≤ z) (h2 : z ≤ 9223372036854775807) : (Instr.lookup 100 (.map (some bm)) (.int .i64 z) false).run Try.prog W = .ok (.bool (decide (z ∈ S))) W := by
 obtain ⟨v, ps, hrun, hv⟩ := ow.lookup (t := 100) (e := 4) (Go.Maps.int_keyed Try.underlying3) Try.underlying100 (z := .bool false) (zd := .held (.bool false)) (zp := []) (by obtain ⟨i0, hi0, hz0, _⟩ := info_parts info_bool; simp [zeroValue, typeInfo, hi0, hz0]) rfl (Go.Maps.keyOf_int_mk Try.underlying3 (int_wf h1 h2)); rw [ms.2 z] at hv; have e := (Prod.mk.inj (Option.some.inj hv)).1; injection e with e; rw [hrun, e]
def impl_Binary_unitRow.f (a0_0 a0_1 : Int) (l0_2 l0_3 : List (List Int)) (l0_4 : List Int) (l0_5 : List (List Int)) (a1 : Int) : Option (List Int) :=
 if (goodB a0_0 a0_1 l0_2 l0_3 l0_4 l0_5 = true ∧ l0_2.length ≤ 1048576 ∧ l0_3.length ≤ 1048576) ∧ -a0_1 ≤ a1 ∧ a1 < a0_0 then some (rowU a0_0.toNat (pairsU a0_0.toNat l0_4 l0_3 l0_2) a1) else none
set_option maxHeartbeats 8000000 in
set_option maxRecDepth 100000 in
theorem impl_Binary_unitRow.calls (a0_0 a0_1 : Int) (A0_2 : Option Addr) (c0_2 : Nat) (l0_2 : List (List Int)) (A0_3 : Option Addr) (c0_3 : Nat) (l0_3 : List (List Int)) (A0_4 : Option Addr) (c0_4 : Nat) (l0_4 : List Int) (A0_5 : Option Addr) (c0_5 : Nat) (l0_5 : List (List Int)) (a1 : Int) (r : List Int) (w : World)
 (hr0_2 : Kd.C (Kd.slice 3 (Kd.int .i64)) w A0_2 l0_2.length l0_2) (hc0_2 : l0_2.length ≤ c0_2) (hr0_3 : Kd.C (Kd.slice 3 (Kd.int .i64)) w A0_3 l0_3.length l0_3) (hc0_3 : l0_3.length ≤ c0_3) (hr0_4 : Kd.C (Kd.int .i64) w A0_4 l0_4.length l0_4) (hc0_4 : l0_4.length ≤ c0_4) (hr0_5 : Kd.C (Kd.slice 3 (Kd.int .i64)) w A0_5 l0_5.length l0_5) (hc0_5 : l0_5.length ≤ c0_5)
 (h : impl_Binary_unitRow.f a0_0 a0_1 l0_2 l0_3 l0_4 l0_5 a1 = some r) :
 Calls Try.prog 58 #[.agg #[.int .i64 a0_0, .int .i64 a0_1, .slice A0_2 l0_2.length c0_2, .slice A0_3 l0_3.length c0_3, .slice A0_4 l0_4.length c0_4, .slice A0_5 l0_5.length c0_5], .int .i64 a1] w fun e w' => ∃ v0_ : Value, e = .returned (v0_) ∧ Kd.R (Kd.int .i64) 3 w' w.heap.size (fun _ => True) v0_ r ∧ Below w.heap.size w w' := by
 have hu := Try.underlying29; unfold impl_Binary_unitRow.f at h; by_cases hcd : (goodB a0_0 a0_1 l0_2 l0_3 l0_4 l0_5 = true ∧ l0_2.length ≤ 1048576 ∧ l0_3.length ≤ 1048576) ∧ -a0_1 ≤ a1 ∧ a1 < a0_0
 · rw [if_pos hcd] at h; obtain rfl := Option.some.inj h; obtain ⟨⟨hG, hL2, hL3⟩, hx0, hx1⟩ := hcd; have ok := goodB_ok hG; have hn := ok.n; have ht := ok.t; obtain ⟨n, rfl⟩ : ∃ n : Nat, a0_0 = (n : Int) := ⟨a0_0.toNat, zz1n⟩
   rw [Int.toNat_natCast]; obtain ⟨K, hK⟩ := (unitPairs_ev hG hL2 hL3).rounds; rw [Int.toNat_natCast] at hK; have PI : PairsIn n (pairsU n l0_4 l0_3 l0_2) := fun p hp => by obtain ⟨e1, e2, e3, e4⟩ := pairsU_ok ok hp; exact ⟨e1, e2, e4⟩
   have PL := pairsU_len n l0_4 l0_3 l0_2; obtain ⟨ps, hps⟩ : ∃ ps, ps = pairsU n l0_4 l0_3 l0_2 := ⟨_, rfl⟩
   rw [← hps] at hK PI PL ⊢; have CU := fun (W : World) (hW : Below w.heap.size w W) => impl_Binary_unitPairs.calls K n a0_1 A0_2 c0_2 l0_2 A0_3 c0_3 l0_3 A0_4 c0_4 l0_4 A0_5 c0_5 l0_5 ps W (zS hr0_2 hW) hc0_2 (zS hr0_3 hW) hc0_3 (zS hr0_4 hW) hc0_4 (zS hr0_5 hW) hc0_5 hK
   have PIN := zA PI; have hx40 : a1 < 40 := by omega
   have hxm4 : -4 ≤ a1 := by omega
   have XN := zA (show a1 < (n : Int) from hx1); have hn40 : n ≤ 40 := by omega
   have hpl : ps.length ≤ 3145728 := by omega
   have HB := zA (Below.refl w.heap.size w); clear h hG hL2 hL3 hx0 hx1 ok hn ht hK PI PL hps hr0_2 hc0_2 hr0_3 hc0_3 hr0_4 hc0_4 hr0_5 hc0_5; go_enter Try.func58, Try.ntmps58; go_wp2_with (first | ((with_reducible refine gate_dst (N := 2) rfl ?_); refine box_event ?hg (N := 2) ?hd (cs := #[.int .i64 (n : Int), .int .i64 a0_1, .slice A0_2 l0_2.length c0_2, .slice A0_3 l0_3.length c0_3, .slice A0_4 l0_4.length c0_4, .slice A0_5 l0_5.length c0_5]) (t := 29) ?hr ?_; (case hd => rfl); (case hg => rfl); (case hr => first | (go_simp; done) | (go_simp; rfl)); intro gb hg w1 hbox hb; have n0_ := zA (zG (zz0y HB) hb); have BB := zA hbox; clear HB hb hbox hg; have HB := n0_; clear n0_; have hb0 : w1.cell? ⟨gb, 0, none⟩ = some (.int .i64 (n : Int)) := (zK BB.out 0).trans rfl; have hb1 : w1.cell? ⟨gb, 1, none⟩ = some (.int .i64 a0_1) := (zK BB.out 1).trans rfl; have hb2 : w1.cell? ⟨gb, 2, none⟩ = some (.slice A0_2 l0_2.length c0_2) := (zK BB.out 2).trans rfl; have hb3 : w1.cell? ⟨gb, 3, none⟩ = some (.slice A0_3 l0_3.length c0_3) := (zK BB.out 3).trans rfl; have hb4 : w1.cell? ⟨gb, 4, none⟩ = some (.slice A0_4 l0_4.length c0_4) := (zK BB.out 4).trans rfl; have hb5 : w1.cell? ⟨gb, 5, none⟩ = some (.slice A0_5 l0_5.length c0_5) := (zK BB.out 5).trans rfl) | (go_at_call 54; (with_reducible refine (CU _ (zz0y HB)).mono ?_); rintro e w2 ⟨v2, rfl, hs2, hb⟩; clear CU; have n0_ := zA (zG (zz0y HB) hb); obtain ⟨A5, c5, ev⟩ := Kd.R_slice (Kd.S_R hs2); subst ev; have HP := zA (Kd.S_reads' hs2).2.2; have HC := zA (Kd.S_reads' hs2).2.1; clear HB hb hs2 BB hb0 hb1 hb2 hb3 hb4 hb5; have HB := n0_; clear n0_; have H2 := zA (Below.refl w2.heap.size w2)) | ((with_reducible refine gate_dst (N := 14) rfl ?_); refine Kd.R_lit (Kd.int .i64) _ 3 ?hg (N := 14) ?hd (xs := ([] : List Int)) (inner := []) (ok := fun _ => True) (okp := fun _ => True) ?hr ?hp (fun _ hk => hk) trivial H2.out (zF H2.out) zz1o ?_; (case hd => rfl); (case hg => rfl); (case hr => first | (go_simp; done) | (go_simp; rfl)); (case hp => exact (Reps.none _ _)); intro u6 w3 ho hb hg_ hnew_; have HO := zA ho; have n0_ := zA hb; have LO := zA (Kd.R_lt ho); clear H2 ho hb hg_ hnew_; have H2 := n0_; clear n0_; have tok1 : True := trivial) | (have _t := tok1; (with_reducible refine made_event rfl 100 3 rfl ?_); intro bm hbm w4 hown hgr; have GE := zA (show w2.heap.size ≤ bm by rw [hbm]; exact zF H2.out); have n0_ := zA (H2.out.grown hgr (zF H2.out) (fun k hk => by cases hk)); have n1_ := zA (Kd.R_below HO.out (below_of_grown hgr)); have OW := zA hown; clear tok1 H2 HO hown hgr hbm; have H2 := n0_; have HO := n1_; clear n0_ n1_; have tok2 : True := trivial) | (have _t := tok2; (with_reducible refine insert_event rfl _ _ _ 100 rfl 3 4 (Go.Maps.int_keyed Try.underlying3) Try.underlying100 bm 0 (.map []) rfl OW.out ?hn (.int .i64 a1) (.bool true) (.int .i64 a1) rfl rfl ?hk ?_); (case hn => decide); (case hk => exact Go.Maps.keyOf_int_mk Try.underlying3 (int_wf zz1n zz1n)); intro w5 hown hgr; have n0_ := zA (H2.out.grown hgr (zF H2.out) (fun k hk => by injection hk with hk; rw [← hk]; exact GE.out)); have n1_ := zA (show Kd.R (Kd.int .i64) 3 w5 w2.heap.size (fun _ => True) u6 [] from Kd.R_mono (Kd.R_grown (Kd.R_tight zz1p HO.out) hgr (fun k hk e => ownsMap_ne (base := 0) (ok := fun _ => True) (xs := []) OW.out (Kd.R_typed HO.out) (e.symm.trans hk))) (fun _ _ => trivial)); have n2_ := zA hown; clear tok2 H2 HO OW hown hgr; have H2 := n0_; have HO := n1_; have OW := n2_; clear n0_ n1_ n2_; have tok3 : True := trivial) | (have _t := tok3; (with_reducible refine gate_dst (N := 19) rfl ?_); refine Kd.R_lit (Kd.int .i64) _ 3 ?hg (N := 19) ?hd (xs := ([a1] : List Int)) (inner := [.int .i64 a1]) (ok := fun k => True ∧ some k ≠ u6.ownBlock) (okp := fun k => True ∧ some k ≠ u6.ownBlock) ?hr ?hp (fun _ hk => hk) ⟨trivial, fun e => by have := Kd.R_lt HO.out _ e.symm; omega⟩ H2.out (zF H2.out) zz1o ?_; (case hd => rfl); (case hg => rfl); (case hr => first | (go_simp; done) | (go_simp; rfl)); (case hp => exact Reps.one (show Kd.M (Kd.int .i64) _ _ _ (a1 : Int) [.int .i64 a1] from rfl) (Reps.none _ _)); intro u8 w6 ho hb hg_ hnew_; clear tok3; have UR := zA (show UrS w2 w6 bm ((DataW.map []).put (.int .i64 a1) (.held (.bool true))) [a1] u6 u8 [] [a1] from ⟨hb, Kd.R_mono (Kd.R_below (Kd.R_bound HO.out) (below_of_grown hg_)) (fun k hk => ⟨trivial, fun e => by obtain ⟨b_, h1_, h2_⟩ := hnew_; rw [h1_] at e; injection e with e; have := hk.2.2.1; omega⟩), Kd.Q_of_R ho, OW.out.kept hg_ zz1o, GE.out, mapS_put mapS_nil a1⟩); clear H2 HO OW ho hb hg_ hnew_)); go_loopg [6, 8] (n + 2) (fun gg s6 s8 wr => ∃ (i : Nat) (S : List Int) (D : DataW Value) (td : List Int), Aside0 (n + 2 - i ≤ gg) ∧ Aside0 (td = S.drop i) ∧ Aside0 (BfsI ps n a1 S i) ∧ Aside0 (UrS w2 wr bm D S s6 s8 ((S.take i).filter fun z => decide (0 ≤ z)) td))
   case atStart => exact ⟨0, [a1], _, [a1], ⟨zz1n⟩, ⟨rfl⟩, ⟨BfsI.start⟩, UR⟩
   case round =>
    clear UR; obtain ⟨i, S, D, td, GG, TD, BI, UR⟩ := hrel; obtain ⟨A8, c8, ev, hc8⟩ := Kd.Q_slice UR.out.hq; subst ev; have hSl := zA (BI.out.len PIN.out); have htl : td.length = S.length - i := by rw [TD.out, List.length_drop]
    by_cases hlt : i < S.length
    · have h0 : 0 < td.length := by omega
      have hd : decide (0 < td.length) = true := decide_eq_true h0; have hdi : decide ((0 : Int) < (td.length : Int)) = true := decide_eq_true zz1n; have hlp : (0 < td.length) = True := eq_true h0; obtain ⟨ay, e, hy0⟩ := Kd.at_int (Kd.Q_reads' UR.out.hq).2.2 0 zz1n zz1n; subst e; rw [show ((0 : Int)).toNat = 0 from rfl, Addr.add_zero'] at hy0; obtain ⟨i0, hi0, _, hsz0, _⟩ := info_parts info3; have hcut0 := cut_from (P := Try.prog) 23 3 .i64 Try.underlying23 hi0 1 hsz0 (some ay) td.length c8 1 zz1n zz1n; have HQ1 := zA (Kd.Q_drop (k := 1) UR.out.hq zz1n); obtain ⟨A9, hA9⟩ : ∃ A9 : Option Addr, A9 = (if c8 = 1 then some ay else (some ay).map (·.add (1 * 1))) := ⟨_, rfl⟩
      have hcut : ∀ W : World, (Instr.slice 23 (.slice (some ay) td.length c8) (some (.int .i64 1)) none none).run Try.prog W = .ok (.slice A9 (td.length - 1) (c8 - 1)) W := fun W => by rw [hcut0 W, hA9]; rfl
      have HQ2 := zA (show Kd.Q (Kd.int .i64) 3 wr w2.heap.size (fun k => True ∧ some k ≠ u6.ownBlock) (.slice A9 (td.length - 1) (c8 - 1)) (td.drop 1) by rw [hA9]; exact HQ1.out); have OB := zA (show (Value.slice A9 (td.length - 1) (c8 - 1)).ownBlock = (Value.slice (some ay) td.length c8).ownBlock ∨ (Value.slice A9 (td.length - 1) (c8 - 1)).ownBlock = none from by
       rw [hA9]; by_cases hc_ : c8 = 1
       · rw [if_pos hc_]; exact .inl rfl
       · rw [if_neg hc_]; left; simp [Value.ownBlock, Addr.add])
      have BJ := zA (BI.out.take hlt); have YS := zA (show rd td 0 = rd S i by rw [TD.out]; unfold rd; rw [Int.toNat_natCast, List.getD_eq_getElem?_getD, List.getElem?_drop, List.getD_eq_getElem?_getD]; rfl); have TK := zA (show (S.take (i + 1)).filter (fun z => decide (0 ≤ z)) = (S.take i).filter (fun z => decide (0 ≤ z)) ++ if 0 ≤ rd S i then [rd S i] else [] by rw [take_getD S i 0 hlt, List.filter_append]; congr 1; have e_ : S.getD i 0 = rd S i := rfl; rw [e_]; exact filter_one (rd S i)); have TD1 := zA (show td.drop 1 = S.drop (i + 1) by rw [TD.out, List.drop_drop]); have UR2 := zA (UR.out.cut OB.out HQ2.out); have LI := zA hlt; have YB := zA (show rd S i < 40 ∧ -4 ≤ rd S i by rcases upR_lt PIN.out (BI.out.up _ (rd_in hlt)) with e | e <;> omega); clear hcut0 HQ1 hA9 hi0 hsz0 HQ2 OB hlt BI; obtain ⟨y, hy⟩ : ∃ y, y = rd S i := ⟨_, rfl⟩
      rw [← hy] at BJ YS TK YB; rw [YS.out] at hy0; clear hy YS; have hy40 : y < 40 := YB.out.1; have hym4 : -4 ≤ y := YB.out.2; have UL := zA (show ((S.take i).filter fun z => decide (0 ≤ z)).length ≤ 41 from Nat.le_trans (List.length_filter_le _ _) (by rw [List.length_take]; have := hSl.out; omega)); by_cases hp : 0 ≤ y
      · have hpd : decide (0 ≤ y) = true := decide_eq_true hp; rw [if_pos hp] at TK; clear UR TD htl h0 YB; go_wp2_with (first | ((with_reducible refine gate_builtin (b := .append) (xs := #[.tmp 30, .tmp 32]) rfl ?_); at_builtin; refine Kd.R_append (Kd.int .i64) (w0 := w2) w2.heap.size rfl (.tmp 30) (.tmp 32) 23 3 (.int .i64 0) 8 rfl Try.underlying23 info3 rfl zz1m zz1n u6 ((S.take i).filter fun z => decide (0 ≤ z)) y [.int .i64 y] (fun k => True ∧ some k ≠ (Value.slice A9 (td.length - 1) (c8 - 1)).ownBlock) (fun _ => False) rfl rfl ?aP (fun _ hk => hk.elim) UR2.out.newo UR2.out.ho UR2.out.below (zF UR2.out.below) (zz1e UL) ?_; (case aP => exact rfl); intro v9 w9 ho hb hg hat; have n0_ := zA (UR2.out.addo ho hb hg hat); clear UR2 ho hb hg hat; have UR2 := n0_; clear n0_)); clear hcut hy0 hd hdi hlp; obtain ⟨out, hout⟩ : ∃ out, out = ((S.take i).filter fun z => decide (0 ≤ z)) ++ [y] := ⟨_, rfl⟩
        have TKO := zA (show (S.take (i + 1)).filter (fun z => decide (0 ≤ z)) = out by rw [hout, TK.out]); rw [← hout] at UR2; clear hout TK UL; go_loopg [8, 36] ps.length (fun gg s8 s36 wq => ∃ (kk : Nat) (S2 : List Int) (D2 : DataW Value) (td2 : List Int), kk ≤ ps.length ∧ ps.length - kk ≤ gg ∧ s36 = .int .i64 kk ∧ Aside0 (S2.take (i + 1) = S.take (i + 1)) ∧ Aside0 (td2 = S2.drop (i + 1)) ∧ Aside0 (BfsJ ps n a1 y S2 i kk) ∧ Aside0 (UrS w2 wq bm D2 S2 v9 s8 out td2))
        case atStart => exact ⟨0, S, D, td.drop 1, Nat.zero_le _, zz1n, rfl, ⟨rfl⟩, TD1, BJ, UR2⟩
        case round =>
         clear UR2 BJ TD1; obtain ⟨kk, S2, D2, td2, hkk, hg, rfl, ST, TD2, BJ, UR⟩ := hrel; by_cases hlt : kk < ps.length
         · have hd : decide (kk < ps.length) = true := decide_eq_true hlt; have hdi : decide ((kk : Int) < (ps.length : Int)) = true := decide_eq_true zz1n; obtain ⟨ad, A1, c1, e, hx0, hl1, hi1⟩ := at_L1 HP.out (kk : Int) zz1n zz1n; subst e; have hx1 : wr.cell? (ad.add kk) = some (.slice A1 (rd_L1 ps kk).length c1) := (UR.out.below.cell (World.block_lt_of_cell? w2 _ zz1f)).trans zz1f; have hmem : rd_L1 ps kk ∈ ps := by unfold rd_L1; rw [Int.toNat_natCast, List.getD_eq_getElem?_getD, List.getElem?_eq_getElem hlt]; exact List.getElem_mem hlt
           obtain ⟨y2, yb0, yb1⟩ := PIN.out _ hmem; have SKP := zA fun h => BJ.out.skip (kk := kk) h
           have PUT := zA fun h1 h2 => BJ.out.put hlt h1 h2
           have GD : ps.getD kk [] = rd_L1 ps kk := rfl; rw [GD] at SKP PUT; have HI := zA (zS hi1 UR.out.below); have L := zA hlt; have BL := zA BJ.out.le; have SL2 := zA (show S2.length ≤ n + 1 from (BfsI.len ⟨BJ.out.nd, BJ.out.st, BJ.out.up, Nat.le_of_lt BJ.out.le, BJ.out.cl⟩ PIN.out)); clear hx0 hi1 hl1 hmem GD BJ; generalize rd_L1 ps kk = z at hx1 y2 yb0 yb1 SKP PUT HI; obtain ⟨az, e, hz0⟩ := Kd.at_int HI.out 0 zz1n zz1n; subst e; obtain ⟨az2, e, hz1⟩ := Kd.at_int HI.out 1 zz1n zz1n; injection e with e; subst e; rw [show ((0 : Int)).toNat = 0 from rfl, Addr.add_zero'] at hz0; (try simp only [show (1 : Int).toNat = 1 from rfl, Nat.reduceMul, Nat.reduceEqDiff, Go.Addr.add, ↓reduceIte] at hz1); have hzl1 : (1 < z.length) = True := eq_true zz1n; have hzl0 : (0 < z.length) = True := eq_true zz1n; have hlook := seen_look (z := rd z 0) UR.out.ow UR.out.ms zz1n zz1n; obtain ⟨z0, hz0e⟩ : ∃ z0 : Nat, rd z 0 = (z0 : Int) := ⟨(rd z 0).toNat, zz1n⟩
           have Z0 := zA hz0e; rw [hz0e] at hz0 hlook yb0; clear hz0e; by_cases h1 : rd z 1 = y
           · have e1 : (rd z 1 == y) = true := by rw [h1]; simp
             have e1d : decide (rd z 1 = y) = true := decide_eq_true h1; by_cases h2 : (z0 : Int) ∈ S2
             · rw [decide_eq_true h2] at hlook; have BJ := zA (SKP.out (.inr (by rw [Z0.out]; exact h2))); clear SKP PUT h2 h1 hzl0; go_wp2
               go_roundg (ps.length - (kk + 1))
               case measure => have := L.out; omega
               case rel => exact ⟨kk + 1, S2, D2, td2, zz1e L, zz1n, zz1l, ST, TD2, BJ, UR⟩
             · rw [decide_eq_false h2] at hlook; have BJ := zA (PUT.out h1 (by rw [Z0.out]; exact h2)); rw [Z0.out] at BJ; have ST2 := zA (show (S2 ++ [(z0 : Int)]).take (i + 1) = S.take (i + 1) by rw [List.take_append_of_le_length (zz1e BL)]; exact ST.out); have TD3 := zA (show td2 ++ [(z0 : Int)] = (S2 ++ [(z0 : Int)]).drop (i + 1) by rw [List.drop_append_of_le_length (zz1e BL), TD2.out]); have TL := zA (show td2.length ≤ 41 by rw [TD2.out, List.length_drop]; have := SL2.out; omega); clear SKP PUT h2 h1; have OLD := zA (show az.block ≠ bm from fun e => by have h_ := World.block_lt_of_cell? wr _ hz0; exact absurd (UR.out.ow) (fun ow => by obtain ⟨es, clock, hb_, _⟩ := ow; rw [← e] at hb_; simp [World.cell?, hb_] at hz0)); go_wp2_with (first | (at_mapUpdate;  refine wpList_mapUpdate_own _ rfl _ _ _ 100 rfl 3 4 (Go.Maps.int_keyed Try.underlying3) Try.underlying100 asIs bm S2.length D2 rfl UR.out.ow ?hn (.int .i64 (z0 : Int)) (.bool true) (.int .i64 (z0 : Int)) rfl rfl ?hk (.held (.bool true)) [] rfl ?_; (case hn => have h_ := SL2.out; exact Nat.lt_of_le_of_lt h_ (Nat.lt_of_le_of_lt (Nat.succ_le_succ hn40) zz1m)); (case hk => exact Go.Maps.keyOf_int_mk Try.underlying3 (int_wf zz1n zz1n)); intro w7 hown hgr; have n0_ := zA (UR.out.seen hown hgr); have hz9 : w7.cell? az = some (.int .i64 (z0 : Int)) := hgr.cell hz0 (fun e => OLD.out (by injection e)); clear hz0 hz1; clear UR hown hgr hlook; have UR := n0_; clear n0_) | ((with_reducible refine gate_builtin (b := .append) (xs := #[.tmp 57, .tmp 61]) rfl ?_); at_builtin; refine Kd.Q_append (Kd.int .i64) (w0 := w2) w2.heap.size rfl (.tmp 57) (.tmp 61) 23 3 (.int .i64 0) 8 rfl Try.underlying23 info3 rfl zz1m zz1n u8 td2 (z0 : Int) [.int .i64 (z0 : Int)] (fun k => True ∧ some k ≠ (v9 : Value).ownBlock) (fun _ => False) rfl rfl ?aP (fun _ hk => hk.elim) UR.out.newq UR.out.hq UR.out.below (zF UR.out.below) (zz1e TL) ?_; (case aP => exact rfl); intro v9 w8 ho hb hg hat; have n0_ := zA (UR.out.addq ho hb hg hat); clear UR ho hb hg hat hz9; have UR := n0_; clear n0_))
               go_roundg (ps.length - (kk + 1))
               case measure => have := L.out; omega
               case rel => exact ⟨kk + 1, S2 ++ [(z0 : Int)], _, td2 ++ [(z0 : Int)], zz1e L, zz1n, zz1l, ST2, TD3, BJ, UR⟩
           · have e1 : (rd z 1 == y) = false := by simpa using h1
             have e1d : decide (rd z 1 = y) = false := decide_eq_false h1; have BJ := zA (SKP.out (.inl h1)); clear SKP PUT h1 hlook hz0; go_wp2
             go_roundg (ps.length - (kk + 1))
             case measure => have := L.out; omega
             case rel => exact ⟨kk + 1, S2, D2, td2, zz1e L, zz1n, zz1l, ST, TD2, BJ, UR⟩
         · have hd : decide (kk < ps.length) = false := decide_eq_false hlt; have hdi : decide ((kk : Int) < (ps.length : Int)) = false := decide_eq_false zz1n; have BI := zA (BJ.out.done zz1n); have SLX := zA (BJ.out.le); have SLY := zA (BI.out.len PIN.out); have UR3 := zA (show UrS w2 wr bm D2 S2 v9 u8 ((S2.take (i + 1)).filter fun z => decide (0 ≤ z)) td2 by rw [ST.out, TKO.out]; exact UR.out); clear hlt BJ UR; go_wp2
           go_roundg (n + 1 - i)
           case measure => have h1 := GG.out; have h2 := SLX.out; have h3 := SLY.out; omega
           case rel => exact ⟨i + 1, S2, D2, td2, ⟨zz1n⟩, TD2, BI, UR3⟩
      · have hpd : decide (0 ≤ y) = false := decide_eq_false hp; rw [if_neg hp] at TK; clear UR TD htl h0 YB; go_wp2; clear hcut hy0 hd hdi hlp; obtain ⟨out, hout⟩ : ∃ out, out = (S.take i).filter fun z => decide (0 ≤ z) := ⟨_, rfl⟩
        have TKO := zA (show (S.take (i + 1)).filter (fun z => decide (0 ≤ z)) = out by rw [hout, TK.out, List.append_nil]); rw [← hout] at UR2; clear hout TK UL; go_loopg [8, 36] ps.length (fun gg s8 s36 wq => ∃ (kk : Nat) (S2 : List Int) (D2 : DataW Value) (td2 : List Int), kk ≤ ps.length ∧ ps.length - kk ≤ gg ∧ s36 = .int .i64 kk ∧ Aside0 (S2.take (i + 1) = S.take (i + 1)) ∧ Aside0 (td2 = S2.drop (i + 1)) ∧ Aside0 (BfsJ ps n a1 y S2 i kk) ∧ Aside0 (UrS w2 wq bm D2 S2 u6 s8 out td2))
        case atStart => exact ⟨0, S, D, td.drop 1, Nat.zero_le _, zz1n, rfl, ⟨rfl⟩, TD1, BJ, UR2⟩
        case round =>
         clear UR2 BJ TD1; obtain ⟨kk, S2, D2, td2, hkk, hg, rfl, ST, TD2, BJ, UR⟩ := hrel; by_cases hlt : kk < ps.length
         · have hd : decide (kk < ps.length) = true := decide_eq_true hlt; have hdi : decide ((kk : Int) < (ps.length : Int)) = true := decide_eq_true zz1n; obtain ⟨ad, A1, c1, e, hx0, hl1, hi1⟩ := at_L1 HP.out (kk : Int) zz1n zz1n; subst e; have hx1 : wr.cell? (ad.add kk) = some (.slice A1 (rd_L1 ps kk).length c1) := (UR.out.below.cell (World.block_lt_of_cell? w2 _ zz1f)).trans zz1f; have hmem : rd_L1 ps kk ∈ ps := by unfold rd_L1; rw [Int.toNat_natCast, List.getD_eq_getElem?_getD, List.getElem?_eq_getElem hlt]; exact List.getElem_mem hlt
           obtain ⟨y2, yb0, yb1⟩ := PIN.out _ hmem; have SKP := zA fun h => BJ.out.skip (kk := kk) h
           have PUT := zA fun h1 h2 => BJ.out.put hlt h1 h2
           have GD : ps.getD kk [] = rd_L1 ps kk := rfl; rw [GD] at SKP PUT; have HI := zA (zS hi1 UR.out.below); have L := zA hlt; have BL := zA BJ.out.le; have SL2 := zA (show S2.length ≤ n + 1 from (BfsI.len ⟨BJ.out.nd, BJ.out.st, BJ.out.up, Nat.le_of_lt BJ.out.le, BJ.out.cl⟩ PIN.out)); clear hx0 hi1 hl1 hmem GD BJ; generalize rd_L1 ps kk = z at hx1 y2 yb0 yb1 SKP PUT HI; obtain ⟨az, e, hz0⟩ := Kd.at_int HI.out 0 zz1n zz1n; subst e; obtain ⟨az2, e, hz1⟩ := Kd.at_int HI.out 1 zz1n zz1n; injection e with e; subst e; rw [show ((0 : Int)).toNat = 0 from rfl, Addr.add_zero'] at hz0; (try simp only [show (1 : Int).toNat = 1 from rfl, Nat.reduceMul, Nat.reduceEqDiff, Go.Addr.add, ↓reduceIte] at hz1); have hzl1 : (1 < z.length) = True := eq_true zz1n; have hzl0 : (0 < z.length) = True := eq_true zz1n; have hlook := seen_look (z := rd z 0) UR.out.ow UR.out.ms zz1n zz1n; obtain ⟨z0, hz0e⟩ : ∃ z0 : Nat, rd z 0 = (z0 : Int) := ⟨(rd z 0).toNat, zz1n⟩
           have Z0 := zA hz0e; rw [hz0e] at hz0 hlook yb0; clear hz0e; by_cases h1 : rd z 1 = y
           · have e1 : (rd z 1 == y) = true := by rw [h1]; simp
             have e1d : decide (rd z 1 = y) = true := decide_eq_true h1; by_cases h2 : (z0 : Int) ∈ S2
             · rw [decide_eq_true h2] at hlook; have BJ := zA (SKP.out (.inr (by rw [Z0.out]; exact h2))); clear SKP PUT h2 h1 hzl0; go_wp2
               go_roundg (ps.length - (kk + 1))
               case measure => have := L.out; omega
               case rel => exact ⟨kk + 1, S2, D2, td2, zz1e L, zz1n, zz1l, ST, TD2, BJ, UR⟩
             · rw [decide_eq_false h2] at hlook; have BJ := zA (PUT.out h1 (by rw [Z0.out]; exact h2)); rw [Z0.out] at BJ; have ST2 := zA (show (S2 ++ [(z0 : Int)]).take (i + 1) = S.take (i + 1) by rw [List.take_append_of_le_length (zz1e BL)]; exact ST.out); have TD3 := zA (show td2 ++ [(z0 : Int)] = (S2 ++ [(z0 : Int)]).drop (i + 1) by rw [List.drop_append_of_le_length (zz1e BL), TD2.out]); have TL := zA (show td2.length ≤ 41 by rw [TD2.out, List.length_drop]; have := SL2.out; omega); clear SKP PUT h2 h1; have OLD := zA (show az.block ≠ bm from fun e => by have h_ := World.block_lt_of_cell? wr _ hz0; exact absurd (UR.out.ow) (fun ow => by obtain ⟨es, clock, hb_, _⟩ := ow; rw [← e] at hb_; simp [World.cell?, hb_] at hz0)); go_wp2_with (first | (at_mapUpdate;  refine wpList_mapUpdate_own _ rfl _ _ _ 100 rfl 3 4 (Go.Maps.int_keyed Try.underlying3) Try.underlying100 asIs bm S2.length D2 rfl UR.out.ow ?hn (.int .i64 (z0 : Int)) (.bool true) (.int .i64 (z0 : Int)) rfl rfl ?hk (.held (.bool true)) [] rfl ?_; (case hn => have h_ := SL2.out; exact Nat.lt_of_le_of_lt h_ (Nat.lt_of_le_of_lt (Nat.succ_le_succ hn40) zz1m)); (case hk => exact Go.Maps.keyOf_int_mk Try.underlying3 (int_wf zz1n zz1n)); intro w7 hown hgr; have n0_ := zA (UR.out.seen hown hgr); have hz9 : w7.cell? az = some (.int .i64 (z0 : Int)) := hgr.cell hz0 (fun e => OLD.out (by injection e)); clear hz0 hz1; clear UR hown hgr hlook; have UR := n0_; clear n0_) | ((with_reducible refine gate_builtin (b := .append) (xs := #[.tmp 57, .tmp 61]) rfl ?_); at_builtin; refine Kd.Q_append (Kd.int .i64) (w0 := w2) w2.heap.size rfl (.tmp 57) (.tmp 61) 23 3 (.int .i64 0) 8 rfl Try.underlying23 info3 rfl zz1m zz1n u8 td2 (z0 : Int) [.int .i64 (z0 : Int)] (fun k => True ∧ some k ≠ (u6 : Value).ownBlock) (fun _ => False) rfl rfl ?aP (fun _ hk => hk.elim) UR.out.newq UR.out.hq UR.out.below (zF UR.out.below) (zz1e TL) ?_; (case aP => exact rfl); intro v9 w8 ho hb hg hat; have n0_ := zA (UR.out.addq ho hb hg hat); clear UR ho hb hg hat hz9; have UR := n0_; clear n0_))
               go_roundg (ps.length - (kk + 1))
               case measure => have := L.out; omega
               case rel => exact ⟨kk + 1, S2 ++ [(z0 : Int)], _, td2 ++ [(z0 : Int)], zz1e L, zz1n, zz1l, ST2, TD3, BJ, UR⟩
           · have e1 : (rd z 1 == y) = false := by simpa using h1
             have e1d : decide (rd z 1 = y) = false := decide_eq_false h1; have BJ := zA (SKP.out (.inl h1)); clear SKP PUT h1 hlook hz0; go_wp2
             go_roundg (ps.length - (kk + 1))
             case measure => have := L.out; omega
             case rel => exact ⟨kk + 1, S2, D2, td2, zz1e L, zz1n, zz1l, ST, TD2, BJ, UR⟩
         · have hd : decide (kk < ps.length) = false := decide_eq_false hlt; have hdi : decide ((kk : Int) < (ps.length : Int)) = false := decide_eq_false zz1n; have BI := zA (BJ.out.done zz1n); have SLX := zA (BJ.out.le); have SLY := zA (BI.out.len PIN.out); have UR3 := zA (show UrS w2 wr bm D2 S2 u6 u8 ((S2.take (i + 1)).filter fun z => decide (0 ≤ z)) td2 by rw [ST.out, TKO.out]; exact UR.out); clear hlt BJ UR; go_wp2
           go_roundg (n + 1 - i)
           case measure => have h1 := GG.out; have h2 := SLX.out; have h3 := SLY.out; omega
           case rel => exact ⟨i + 1, S2, D2, td2, ⟨zz1n⟩, TD2, BI, UR3⟩
    · have h0 : td.length = 0 := by omega
      have hd : decide (0 < td.length) = false := decide_eq_false zz1n; have hdi : decide ((0 : Int) < (td.length : Int)) = false := decide_eq_false zz1n; have FIN := zA (BI.out.fin zz1n PIN.out XN.out); have OL := zA (show ((S.take i).filter fun z => decide (0 ≤ z)).length < 4611686018427387904 from Nat.lt_of_le_of_lt (Nat.le_trans (List.length_filter_le _ _) (List.length_take_le _ _)) (by have h1 := BI.out.le; have h2 := hSl.out; omega)); have CS := slices_Sort_int_int.calls (fun k => True ∧ some k ≠ (Value.slice A8 td.length c8).ownBlock) u6 ((S.take i).filter fun z => decide (0 ≤ z)) (rowU n ps a1) w2 wr UR.out.below UR.out.ho (by unfold slices_Sort_int_int.f; rw [if_pos OL.out, FIN.out]); clear hlt h0 htl FIN UR; go_wp2_with (go_at_call 98; (with_reducible refine CS.mono ?_); rintro e w9 ⟨rfl, ho, hb, hk⟩; clear CS; have HO9 := zA ho; have HB9 := zA hb; clear ho hb hk); go_ret; exact ⟨_, rfl, Kd.R_mono (Kd.R_lower HO9.out (zF HB.out)) (fun _ _ => trivial), zG HB.out HB9.out⟩
 · rw [if_neg hcd] at h; cases h
end Go.Proofs.Ytkocahlifffgjaa.P
namespace Go.Proofs.Ytkocahlifffgjaa.P
open Go.RowKit Go.Proofs.YtkocahlifffgjaaW.PrintWords Go.Proofs.YtkocahlifffgjaaW.PrintLast Go.Proofs.YtkocahlifffgjaaW.PrintMore
attribute [local go_sem] max2_int min2_int max_two min_two max_three min_three max_four min_four
set_option linter.unusedVariables false
set_option linter.unusedSimpArgs false
def impl_union.f (l0 : List Int) (l1 : List Int) : Option (List Int) := (some (([] : List Int) : List Int)).bind fun dP => (if dP.length + l0.length < 17592186044416 then ((some (dP ++ l0 : List Int)).bind fun gb => (if gb.length + l1.length < 17592186044416 then ((slices_Sort_int_int.f (gb ++ l1)).bind fun bU => ((slices_Compact_int_int.f bU).bind fun fh => (some fh))) else (none))) else (none))
set_option maxHeartbeats 8000000 in
set_option maxRecDepth 100000 in
theorem impl_union.calls (A0 : Option Addr) (c0 : Nat) (l0 : List Int) (A1 : Option Addr) (c1 : Nat) (l1 : List Int) (r : List Int) (w : World) (dK : Kd.C (Kd.int .i64) w A0 l0.length l0) (dL : l0.length ≤ c0) (et : Kd.C (Kd.int .i64) w A1 l1.length l1) (eu : l1.length ≤ c1) (h : impl_union.f l0 l1 = some r) :
 Calls Try.prog 68 #[.slice A0 l0.length c0, .slice A1 l1.length c1] w fun e w' => ∃ eQ : Value, e = .returned (eQ) ∧ Kd.R (Kd.int .i64) 3 w' w.heap.size (fun _ => True) eQ r ∧ Below w.heap.size w w' := by
 have dx := zA dK; have iG := zA dL; clear dK dL; have eO := zA et; have hl := zA eu; clear et eu; have HB := zA (Below.refl w.heap.size w); have H : ((some (([] : List Int) : List Int)).bind fun dP => (if dP.length + l0.length < 17592186044416 then ((some (dP ++ l0 : List Int)).bind fun gb => (if gb.length + l1.length < 17592186044416 then ((slices_Sort_int_int.f (gb ++ l1)).bind fun bU => ((slices_Compact_int_int.f bU).bind fun fh => (some fh))) else (none))) else (none))) = some r := h; clear h; obtain ⟨dP, e_y⟩ : ∃ y_ : List Int, y_ = (([] : List Int)) := ⟨_, rfl⟩
 replace H : (if dP.length + l0.length < 17592186044416 then ((some (dP ++ l0 : List Int)).bind fun gb => (if gb.length + l1.length < 17592186044416 then ((slices_Sort_int_int.f (gb ++ l1)).bind fun bU => ((slices_Compact_int_int.f bU).bind fun fh => (some fh))) else (none))) else (none)) = some r := zz07
 have fJ := zA e_y; clear e_y; replace H := zIn H; obtain ⟨c3, H⟩ := H; have LMc3 := zA c3; clear c3; obtain ⟨gb, e_y⟩ : ∃ y_ : List Int, y_ = (dP ++ l0) := ⟨_, rfl⟩
 replace H : (if gb.length + l1.length < 17592186044416 then ((slices_Sort_int_int.f (gb ++ l1)).bind fun bU => ((slices_Compact_int_int.f bU).bind fun fh => (some fh))) else (none)) = some r := zz07
 have ml := zA e_y; clear e_y; replace H := zIn H; obtain ⟨c4, H⟩ := H; have LMc4 := zA c4; clear c4; obtain ⟨j6, e_y⟩ : ∃ y_ : List Int, y_ = (gb ++ l1) := ⟨_, rfl⟩
 replace H : ((slices_Sort_int_int.f j6).bind fun bU => ((slices_Compact_int_int.f bU).bind fun fh => (some fh))) = some r := zz07
 have Ny107 := zA e_y; clear e_y; replace H := Option.bind_eq_some_iff.mp H; obtain ⟨bU, kW, H⟩ := H; have A5 := zA kW; clear kW; replace H := Option.bind_eq_some_iff.mp H; obtain ⟨fh, kT, H⟩ := H; have A6 := zA kT; clear kT; obtain rfl := Option.some.inj H; go_enter Try.func68, Try.ntmps68; go_wp2_with (first | ((with_reducible refine gate_dst (N := 6) rfl ?_); refine Kd.R_lit (Kd.int .i64) _ 3 ?hg (N := 6) ?hd (xs := ([] : List Int)) (inner := []) (ok := fun _ => True) (okp := fun _ => True) ?hr ?hp (fun _ hk => hk) trivial (Below.refl _ _) (Nat.le_refl _) zz1o ?_; (case hd => rfl); (case hg => rfl); (case hr => first | (go_simp; done) | (go_simp; rfl)); (case hp => exact (Reps.none _ _)); intro jx w7 ri hb hg_ hnew_; clear hg_ hnew_; (first | rw [← fJ.out] at ri | (simp only [Int.reduceToNat] at ri; rw [← fJ.out] at ri)); have fK := zA (Kd.R_lower ri (zF (zz0y HB))); replace HB := zA (zG (zz0y HB) hb); clear hb ri) | ((with_reducible refine gate_builtin (b := .append) (xs := #[.tmp 6, .tmp 7]) rfl ?_); at_builtin; refine Kd.R_append_rows (Kd.int .i64) (w0 := w) w.heap.size rfl (.tmp 6) (.tmp 7) 23 3 (.int .i64 0) 8 rfl Try.underlying23 info3 rfl zz1m zz1n jx dP l0 _ _ _ (fun _ => True) (fun _ => False) rfl rfl ?aO ?aR (fun _ _ h => h) (fun _ h => h.elim) ?aF ?aB ?aS ?aL ?_; (case aR => exact (zz11 dx HB)); (case aB => exact (zz0y HB)); (case aF => exact (fun _ _ => trivial)); (case aO => exact (zz12 fK)); (case aS => exact (zF (zz0y HB))); (case aL => have := LMc3.out; omega); intro lz w9 ho hb hg hat; rw [← ml.out] at ho; replace HB := zA (hb); have cJ := zA (ho); clear fK; clear ho hb hg hat) | ((with_reducible refine gate_builtin (b := .append) (xs := #[.tmp 8, .tmp 9]) rfl ?_); at_builtin; refine Kd.R_append_rows (Kd.int .i64) (w0 := w) w.heap.size rfl (.tmp 8) (.tmp 9) 23 3 (.int .i64 0) 8 rfl Try.underlying23 info3 rfl zz1m zz1n lz gb l1 _ _ _ (fun _ => True) (fun _ => False) rfl rfl ?aO ?aR (fun _ _ h => h) (fun _ h => h.elim) ?aF ?aB ?aS ?aL ?_; (case aR => exact (zz11 eO HB)); (case aB => exact (zz0y HB)); (case aF => exact (fun _ _ => trivial)); (case aO => exact (zz12 cJ)); (case aS => exact (zF (zz0y HB))); (case aL => have := LMc4.out; omega); intro pn sy ho hb hg hat; rw [← Ny107.out] at ho; replace HB := zA (hb); have cM := zA (ho); clear cJ; clear ho hb hg hat; obtain ⟨ie, ig, m7⟩ := Kd.R_slice cM.out; subst m7) | ((with_reducible refine gate_callee (f := 98) rfl ?_); refine goesL_ (some 12) rfl rfl Try.func98 zz1j rfl #[.slice ie j6.length ig] rfl zz0i ?_; (with_reducible refine (slices_Sort_int_int.calls (fun k_ => some k_ = (.slice ie j6.length ig : Value).ownBlock) (.slice ie j6.length ig) j6 bU w _ ?ak ?al A5.out).mono ?_); (case ak => repeat (first | (with_reducible first | exact HB.out | apply zB | apply zC | apply zD) | exact HB.out)); (case al => exact Kd.R_tight rfl cM.out); rintro e lZ ⟨rfl, sA, hb, hkp⟩; refine ⟨_, rfl, ?_⟩; replace cM := zA (Kd.R_reok rfl sA (fun k_ e_ => cM.out.1 k_ e_)); replace HB := zA (hb); (try clear hb); (try clear hkp); (try clear sA)) | ((with_reducible refine gate_callee (f := 100) rfl ?_); refine goesL_ (some 14) rfl rfl Try.func100 zz1j rfl #[.slice ie j6.length ig] rfl zz0i ?_; (with_reducible refine (slices_Compact_int_int.calls (fun k_ => some k_ = (.slice ie j6.length ig : Value).ownBlock) (.slice ie j6.length ig) bU fh w _ ?ak ?al A6.out).mono ?_); (case ak => repeat (first | (with_reducible first | exact HB.out | apply zB | apply zC | apply zD) | exact HB.out)); (case al => exact Kd.R_tight rfl cM.out); rintro e lV ⟨v112, rfl, b7, hb, hkp⟩; refine ⟨_, rfl, ?_⟩; have na := zA (Kd.R_mono (ok' := fun k_ => True) b7 (fun k_ hk_ => trivial)); replace HB := zA (hb); clear cM; (try clear hb); (try clear hkp); (try clear b7))); go_ret; exact ⟨_, zz0z, zz12 na, zz0y HB⟩
def impl_Binary_closedSet.l0 : Nat → List Int → List Int → Int → Int → Int → Int → List (List Int) → List (List Int) → List Int → List (List Int) → Option (List Int)
 | 0, _, _, _, _, _, _, _, _, _, _ => none
 | k + 1, x5, x9, lU, eg, aN, aT, aE, aI, aQ, aM => if eg < lU then (if 0 ≤ eg then (if eg < (x9.length : Int) then ((impl_Binary_unitRow.f aN aT aE aI aQ aM (rd x9 eg)).bind fun cL => ((impl_union.f x5 cL).bind fun cK => (impl_Binary_closedSet.l0 k cK x9 lU (wrap64 (eg + 1)) aN aT aE aI aQ aM))) else (none)) else (none)) else (some x5)
def impl_Binary_closedSet.f (k : Nat) (ah : Int) (ai : Int) (ab : List (List Int)) (ae : List (List Int)) (ag : List Int) (af : List (List Int)) (l1 : List Int) : Option (List Int) := impl_Binary_closedSet.l0 k (([] : List Int)) l1 (l1.length : Int) 0 ah ai ab ae ag af
set_option maxHeartbeats 8000000 in
set_option maxRecDepth 100000 in
theorem impl_Binary_closedSet.calls (k : Nat) (ah : Int) (ai : Int) (ay : Option Addr) (ap : Nat) (ab : List (List Int)) (ax : Option Addr) (au : Nat) (ae : List (List Int)) (aq : Option Addr) (ar : Nat) (ag : List Int) (av : Option Addr) (aw : Nat) (af : List (List Int)) (A1 : Option Addr) (c1 : Nat) (l1 : List Int) (r : List Int) (w : World) (bw : Kd.C (Kd.slice 3 (Kd.int .i64)) w ay ab.length ab) (bx : ab.length ≤ ap) (bz : Kd.C (Kd.slice 3 (Kd.int .i64)) w ax ae.length ae) (bA : ae.length ≤ au) (bB : Kd.C (Kd.int .i64) w aq ag.length ag) (bC : ag.length ≤ ar) (bD : Kd.C (Kd.slice 3 (Kd.int .i64)) w av af.length af) (bE : af.length ≤ aw) (et : Kd.C (Kd.int .i64) w A1 l1.length l1) (eu : l1.length ≤ c1) (h : impl_Binary_closedSet.f k ah ai ab ae ag af l1 = some r) :
 Calls Try.prog 62 #[.agg #[.int .i64 ah, .int .i64 ai, .slice ay ab.length ap, .slice ax ae.length au, .slice aq ag.length ar, .slice av af.length aw], .slice A1 l1.length c1] w fun e w' => ∃ eQ : Value, e = .returned (eQ) ∧ Kd.R (Kd.int .i64) 3 w' w.heap.size (fun _ => True) eQ r ∧ Below w.heap.size w w' := by
 have hu29 := Try.underlying29; have bm := zA bw; have bF := zA bx; clear bw bx; have bq := zA bz; have bG := zA bA; clear bz bA; have bH := zA bB; have bI := zA bC; clear bB bC; have bJ := zA bD; have bN := zA bE; clear bD bE; have eO := zA et; have hl := zA eu; clear et eu; have HB := zA (Below.refl w.heap.size w); have H : (impl_Binary_closedSet.l0 k (([] : List Int)) l1 (l1.length : Int) 0 ah ai ab ae ag af) = some r := h; clear h; obtain ⟨lT, e_y⟩ : ∃ y_ : List Int, y_ = (([] : List Int)) := ⟨_, rfl⟩
 replace H : (impl_Binary_closedSet.l0 k lT l1 (l1.length : Int) 0 ah ai ab ae ag af) = some r := zz07
 have j7 := zA e_y; clear e_y; have H' := zA H; clear H; go_enter Try.func62, Try.ntmps62; go_wp2_with (first | ((with_reducible refine gate_dst (N := 2) rfl ?_); refine box_event ?hg (N := 2) ?hd (cs := #[.int .i64 ah, .int .i64 ai, .slice ay ab.length ap, .slice ax ae.length au, .slice aq ag.length ar, .slice av af.length aw]) (t := 29) ?hr ?_; (case hd => rfl); (case hg => rfl); (case hr => first | (go_simp; done) | (go_simp; rfl)); intro ad hg w3 hbox hb; have aa := zA (hbox); have ce := zA ((by rw [hg]; exact (zF (zz0y HB)) : w.heap.size ≤ ad)); have ac := zA ((by rw [hg]; exact (zF (zz0y HB)) : w.heap.size ≤ ad)); replace HB := zA (zG (zz0y HB) hb); clear hb hbox hg) | ((with_reducible refine gate_dst (N := 8) rfl ?_); refine Kd.R_lit (Kd.int .i64) _ 3 ?hg (N := 8) ?hd (xs := ([] : List Int)) (inner := []) (ok := fun _ => True) (okp := fun _ => True) ?hr ?hp (fun _ hk => hk) trivial (Below.refl _ _) (Nat.le_refl _) zz1o ?_; (case hd => rfl); (case hg => rfl); (case hr => first | (go_simp; done) | (go_simp; rfl)); (case hp => exact (Reps.none _ _)); intro eP w4 jy hb hg_ hnew_; clear hg_ hnew_; (first | rw [← j7.out] at jy | (simp only [Int.reduceToNat] at jy; rw [← j7.out] at jy)); have cU := zA (Kd.R_lower jy (zF (zz0p HB ac))); replace aa := zA (zMp aa.out hb); replace HB := zA (zG (zz0p HB ac) hb); clear hb jy)); go_loopg [5, 11] k (fun kq v5 ki w' => ∃ (ao : List Int) (aC : Int), ki = .int .i64 aC ∧ Aside0 (impl_Binary_closedSet.l0 kq ao l1 (l1.length : Int) aC ah ai ab ae ag af = some r) ∧ Aside0 (kq ≤ k) ∧ Aside0 (Kd.R (Kd.int .i64) 3 w' w.heap.size (fun _ => True) v5 ao) ∧ Aside0 (w'.heap[ad]? = some (.cells #[.int .i64 ah, .int .i64 ai, (.slice ay ab.length ap), (.slice ax ae.length au), (.slice aq ag.length ar), (.slice av af.length aw)] 29 (0, 0))) ∧ Aside0 (Below w.heap.size w w'))
 case atStart => exact ⟨(lT), (0), zz16, H', ⟨Nat.le_refl _⟩, ⟨zz12 cU⟩, ⟨zz10 aa⟩, ⟨zz0p HB ac⟩⟩
 case round =>
  clear H'; (try clear c1); (try clear p2); obtain ⟨ao, aC, rfl, HA, bM, cR, aa, HB⟩ := hrel; cases gk with
  | zero => exact absurd HA.out (by simp [impl_Binary_closedSet.l0])
  | succ k1 =>
   have H := HA.out; clear HA; simp only [impl_Binary_closedSet.l0] at H; by_cases c6 : aC < (l1.length : Int)
   · rw [if_pos c6] at H; have dq := decide_eq_true c6; clear c6; replace H := zIn H; obtain ⟨c7, H⟩ := H; have dy : decide (0 ≤ aC) = true := decide_eq_true c7; clear c7; replace H := zIn H; obtain ⟨c8, H⟩ := H; have dY : decide (aC < (l1.length : Int)) = true := decide_eq_true c8; clear c8; replace H := Option.bind_eq_some_iff.mp H; obtain ⟨cL, mK, H⟩ := H; have A9 := zA mK; clear mK; replace H := Option.bind_eq_some_iff.mp H; obtain ⟨cK, fP, H⟩ := H; have kJ := zA fP; clear fP; have H' := zA H; clear H; have b9 : 0 ≤ (aC : Int) := of_decide_eq_true zz1i; have ca : aC < (l1.length : Int) := of_decide_eq_true zz1i; obtain ⟨dN, dA, aD⟩ := Kd.at_int eO.out aC b9 ca; cases dA; replace aD := (HB.out.cell (World.block_lt_of_cell? w _ aD)).trans aD; replace b9 := eq_true b9; replace ca := eq_true ca; obtain ⟨hcz11_0, hcz11_1, hcz11_2, hcz11_3, hcz11_4, hcz11_5⟩ := zk6 aa.out; go_wp2_with (first | ((with_reducible refine gate_callee (f := 58) rfl ?_); refine goesL_ (some 18) rfl rfl Try.func58 zz1j rfl #[.agg #[.int .i64 ah, .int .i64 ai, .slice ay ab.length ap, .slice ax ae.length au, .slice aq ag.length ar, .slice av af.length aw], .int .i64 (rd l1 aC)] rfl zz0i ?_; (with_reducible refine (impl_Binary_unitRow.calls ah ai _ _ ab _ _ ae _ _ ag _ _ af (rd l1 aC) cL _ ?ak ?al ?aJ ?aK ?be ?bf ?bg ?bh A9.out).mono ?_); (case ak => exact (zz11 bm HB)); (case al => exact bF.out); (case aJ => exact (zz11 bq HB)); (case aK => exact bG.out); (case be => exact (zz11 bH HB)); (case bf => exact bI.out); (case bg => exact (zz11 bJ HB)); (case bh => exact bN.out); rintro e lZ ⟨v107, rfl, b7, hb⟩; refine ⟨_, rfl, ?_⟩; have eM := zA (Kd.R_lower (Kd.R_new' b7 (Kd.R_lt (zz12 cR))) (zF (zz0p HB ac))); replace cR := zA (Kd.R_elder' (zz12 cR) (Kd.R_base b7) hb); replace aa := zA (zMp aa.out hb); replace HB := zA (zG (zz0p HB ac) hb); (try clear hb); (try clear hb2); (try clear hk); (try clear hi); (try clear b7); obtain ⟨lQ, kK, mR⟩ := Kd.R_slice cR.out; subst mR; obtain ⟨ks, kt, mq⟩ := Kd.R_slice eM.out; subst mq) | ((with_reducible refine gate_callee (f := 68) rfl ?_); refine goesL_ (some 19) rfl rfl Try.func68 zz1j rfl #[.slice lQ ao.length kK, .slice ks cL.length kt] rfl zz0i ?_; (with_reducible refine (impl_union.calls _ _ ao _ _ cL cK _ ?ak ?al ?aJ ?aK kJ.out).mono ?_); (case ak => repeat (first | exact (Kd.R_reads' cR.out).2.2 | refine zP ?_ _ | refine zQ ?_ _ | refine zR ?_)); (case al => exact (Kd.R_reads' cR.out).2.1); (case aJ => repeat (first | exact (Kd.R_reads' eM.out).2.2 | refine zP ?_ _ | refine zQ ?_ _ | refine zR ?_)); (case aK => exact (Kd.R_reads' eM.out).2.1); rintro e rF ⟨mA, rfl, b7, hb⟩; refine ⟨_, rfl, ?_⟩; have di := zA (Kd.R_lower (Kd.R_new' (Kd.R_new' b7 (Kd.R_lt (zz12 cR))) (Kd.R_lt (zz12 eM))) (zF (zz0p HB ac))); replace cR := zA (Kd.R_elder' (zz12 cR) (Kd.R_base b7) hb); replace eM := zA (Kd.R_elder' (zz12 eM) (Kd.R_base b7) hb); replace aa := zA (zMp aa.out hb); replace HB := zA (zG (zz0p HB ac) hb); (try clear hb); (try clear hb2); (try clear hk); (try clear hi); (try clear b7)))
     go_roundg k1
     case measure => have := bM.out; omega
     case rel => exact ⟨(cK), (wrap64 (aC + 1)), zz16, H', ⟨zz1e bM⟩, ⟨zz0q di⟩, ⟨zz10 aa⟩, ⟨zz0p HB ac⟩⟩
   · rw [if_neg c6] at H; have dq := decide_eq_false c6; clear c6; obtain rfl := Option.some.inj H; go_wp2; go_ret; exact ⟨_, zz0z, zz12 cR, zz0p HB ac⟩
end Go.Proofs.Ytkocahlifffgjaa.P
namespace Go.Proofs.Ytkocahlifffgjaa.P
open Go.RowKit Go.Proofs.YtkocahlifffgjaaW.PrintWords
set_option linter.unusedVariables false
set_option linter.unusedSimpArgs false
theorem unionC_eq (a b : List Int) (h : a.length + b.length < 17592186044416) : impl_union.f a b = some (sortI (a ++ b)) := by
 unfold impl_union.f slices_Sort_int_int.f slices_Compact_int_int.f; simp only [Option.bind_some, List.length_nil, List.nil_append]; rw [if_pos zz1n, if_pos h, if_pos (by rw [List.length_append]; omega)]; simp only [Option.bind_some]; rw [if_pos (by rw [mergeI_len, List.length_append]; omega)]; simp only [Option.bind_some]; rw [compact_sort]
def closeU (n : Nat) (ps : List (List Int)) (out : List Int) (l : List Int) : List Int := l.foldl (fun o x => sortI (o ++ rowU n ps x)) out
structure ClI (n : Nat) (out : List Int) : Prop where
 up : UpI out
 rg : ∀ x, x ∈ out → 0 ≤ x ∧ x < n
theorem ClI.len {n : Nat} {out : List Int} (h : ClI n out) : out.length ≤ n := by
 have := upI_len out 0 n h.up h.rg zz1n; omega
theorem ClI.join {n : Nat} {ps : List (List Int)} (hP : PairsIn n ps) {out : List Int} (h : ClI n out) {x : Int} (hx : x < n) : ClI n (sortI (out ++ rowU n ps x)) :=
 ⟨sortI_up _, fun z hz => by
  rw [mem_sortI, List.mem_append] at hz; rcases hz with e | e
  · exact h.rg z e
  · obtain ⟨h0, hu⟩ := (mem_rowU hP hx z).1 e; rcases upR_lt hP hu with e | e
    · omega
    · exact e⟩
theorem closeU_ok {n : Nat} {ps : List (List Int)} (hP : PairsIn n ps) : ∀ (l out : List Int), ClI n out → (∀ x, x ∈ l → x < n) → ClI n (closeU n ps out l) ∧ ∀ z, z ∈ closeU n ps out l ↔ z ∈ out ∨ ∃ x, x ∈ l ∧ z ∈ rowU n ps x
 | [], out, h, _ => ⟨h, fun z => by unfold closeU; simp⟩
 | x :: l, out, h, hl => by
  have hx := hl x List.mem_cons_self; obtain ⟨h1, h2⟩ := closeU_ok hP l (sortI (out ++ rowU n ps x)) (h.join hP hx) (fun y hy => hl y (List.mem_cons_of_mem _ hy)); refine ⟨h1, fun z => (h2 z).trans ?_⟩; rw [mem_sortI, List.mem_append]; constructor
  · rintro ((e | e) | ⟨y, hy, e⟩)
    · exact .inl e
    · exact .inr ⟨x, List.mem_cons_self, e⟩
    · exact .inr ⟨y, List.mem_cons_of_mem _ hy, e⟩
  · rintro (e | ⟨y, hy, e⟩)
    · exact .inl (.inl e)
    · rcases List.mem_cons.1 hy with q | q
      · rw [q] at e; exact .inl (.inr e)
      · exact .inr ⟨y, q, e⟩
section
variable {n : Nat} {toks : Int} {l2 l3 : List (List Int)} {l4 : List Int} {l5 : List (List Int)} (hg : goodB (n : Int) toks l2 l3 l4 l5 = true) (h2 : l2.length ≤ 1048576) (h3 : l3.length ≤ 1048576)
include hg h2 h3
theorem cls_impl (s : List Int) (hs : s.length ≤ 17592186044415) (hr : ∀ x, x ∈ s → 0 ≤ x ∧ x < (n : Int)) (d : Nat) : ∀ (i : Nat) (out : List Int), i ≤ s.length → s.length - i = d → ClI n out → Ev (fun k => impl_Binary_closedSet.l0 k out s s.length i (n : Int) toks l2 l3 l4 l5) (closeU n (pairsU n l4 l3 l2) out (s.drop i)) := by
 have ok := goodB_ok hg; have hn := ok.n; have ht := ok.t; have hP := pairsU_in ok
 induction d with
 | zero =>
  intro i out h1 hd ho; refine ⟨1, fun k hk => ?_⟩; dsimp only; obtain ⟨k, rfl⟩ : ∃ m, k = m + 1 := ⟨k - 1, zz1n⟩
  simp only [impl_Binary_closedSet.l0]; rw [if_neg zz1n, List.drop_of_length_le zz1n]; rfl
 | succ d ih =>
  intro i out h1 hd ho; have ed : s.drop i = rd s i :: s.drop (i + 1) := getD_drop s i 0 zz1n; have hx := hr (rd s i) (rd_in zz1n); obtain ⟨K, h⟩ := ih (i + 1) _ zz1n zz1n (ho.join hP hx.2); dsimp only at h; have hl1 := ho.len; have hl2 := rowU_len hP hx.2; refine ⟨K + 1, fun k hk => ?_⟩; dsimp only; obtain ⟨k, rfl⟩ : ∃ m, k = m + 1 := ⟨k - 1, zz1n⟩
  simp only [impl_Binary_closedSet.l0]; unfold impl_Binary_unitRow.f; rw [if_pos zz1n, if_pos zz1n, if_pos zz1n, if_pos ⟨⟨hg, h2, h3⟩, zz1n⟩, Int.toNat_natCast]; simp only [Option.bind_some]; rw [unionC_eq _ _ zz1n]; simp only [Option.bind_some]; rw [wsuccL (show i < s.length by omega) zz1n, h k zz1n, ed]; rfl
end
end Go.Proofs.Ytkocahlifffgjaa.P
namespace Go.Proofs.Ytkocahlifffgjaa.P
open Go.RowKit Go.Proofs.YtkocahlifffgjaaW.PrintWords Go.Proofs.YtkocahlifffgjaaW.PrintLast Go.Proofs.YtkocahlifffgjaaW.PrintMore
attribute [local go_sem] max2_int min2_int max_two min_two max_three min_three max_four min_four
set_option linter.unusedVariables false
set_option linter.unusedSimpArgs false
def spec_l7No.l0 : Nat → Int → Int → Int → Int → Option (Int)
 | 0, _, _, _, _ => none
 | k + 1, x0, x7, x8, x9 => if x9 < x7 then (spec_l7No.l0 k x0 x7 (wrap64 (x8 + (wrap64 ((wrap64 (x0 - x9)) + 1)))) (wrap64 (x9 + 1))) else (some x8)
def spec_l7No.f (k : Nat) (a0 : Int) (a1 : Int) (a2 : Int) : Option (Int) := spec_l7No.l0 k a0 (wrap64 (a2 - a1)) a1 1
theorem spec_l7No.mono_l : ∀ k, (∀ y0 y1 y2 y3, LeO (spec_l7No.l0 k y0 y1 y2 y3) (spec_l7No.l0 (k + 1) y0 y1 y2 y3))
 | 0 => fun _ _ _ _ r h => by simp [spec_l7No.l0] at h
 | k + 1 => by
  have nb := spec_l7No.mono_l k
  · intro y0 y1 y2 y3; unfold spec_l7No.l0
    repeat' first
    | (with_reducible exact nb _ _ _ _)
    | (with_reducible exact LeO.refl _)
    | (with_reducible exact LeO.none _)
    | (with_reducible refine LeO.ite ?_ ?_)
    | (with_reducible refine LeO.bind ?_ (fun _ => ?_))
    | exact nb _ _ _ _
    | exact LeO.none _
    | refine LeO.ite ?_ ?_
    | refine LeO.bind ?_ (fun _ => ?_)
theorem spec_l7No.mono : ∀ a0 a1 a2 k, LeO (spec_l7No.f k a0 a1 a2) (spec_l7No.f (k + 1) a0 a1 a2) := by
 intro a0 a1 a2 k; have nb := spec_l7No.mono_l k; unfold spec_l7No.f
 repeat' first
  | (with_reducible exact nb _ _ _ _)
  | (with_reducible exact LeO.refl _)
  | (with_reducible exact LeO.none _)
  | (with_reducible refine LeO.ite ?_ ?_)
  | (with_reducible refine LeO.bind ?_ (fun _ => ?_))
  | exact nb _ _ _ _
  | exact LeO.none _
  | refine LeO.ite ?_ ?_
  | refine LeO.bind ?_ (fun _ => ?_)
set_option maxHeartbeats 8000000 in
set_option maxRecDepth 100000 in
theorem spec_l7No.calls (k : Nat) (a0 : Int) (a1 : Int) (a2 : Int) (r : Int) (w : World) (h : spec_l7No.f k a0 a1 a2 = some r) :
 Calls Try.prog 76 #[.int .i64 a0, .int .i64 a1, .int .i64 a2] w fun e w' => e = .returned (.int .i64 r) ∧ Drawn0 w w' := by
 have H : (spec_l7No.l0 k a0 (wrap64 (a2 - a1)) a1 1) = some r := h; clear h; have H' := zA H; clear H; go_enter Try.func76, Try.ntmps76; go_wp2; go_loopg [8, 9] k (fun kq v8 v9 w' => ∃ (b2 : Int) (b6 : Int), v8 = .int .i64 b2 ∧ v9 = .int .i64 b6 ∧ Aside0 (spec_l7No.l0 kq a0 (wrap64 (a2 - a1)) b2 b6 = some r) ∧ Aside0 (kq ≤ k) ∧ Drawn0 w w')
 case atStart => exact ⟨(a1), (1), zz16, zz16, H', ⟨Nat.le_refl _⟩, zz14⟩
 case round =>
  clear H'; (try clear p2); obtain ⟨b2, b6, rfl, rfl, HA, bM, ⟨m1, rfl⟩⟩ := hrel; cases gk with
  | zero => exact absurd HA.out (by simp [spec_l7No.l0])
  | succ k1 =>
   have H := HA.out; clear HA; simp only [spec_l7No.l0] at H; by_cases c4 : b6 < (wrap64 (a2 - a1))
   · rw [if_pos c4] at H; have dp := decide_eq_true c4; clear c4; have H' := zA H; clear H; go_wp2
     go_roundg k1
     case measure => have := bM.out; omega
     case rel => exact ⟨(wrap64 (b2 + (wrap64 ((wrap64 (a0 - b6)) + 1)))), (wrap64 (b6 + 1)), zz16, zz16, H', ⟨zz1e bM⟩, zz14⟩
   · rw [if_neg c4] at H; have dp := decide_eq_false c4; clear c4; obtain rfl := Option.some.inj H; go_wp2; go_ret; exact ⟨zz16, zz14⟩
def impl_cellNo.l0 : Nat → Int → Int → Int → Int → Int → Option (Int)
 | 0, _, _, _, _, _ => none
 | k + 1, x0, x1, x2, x7, x8 => if x8 < (wrap64 (x2 - x1)) then (impl_cellNo.l0 k x0 x1 x2 (wrap64 (x7 + (wrap64 ((wrap64 (x0 - x8)) + 1)))) (wrap64 (x8 + 1))) else (some x7)
def impl_cellNo.f (k : Nat) (a0 : Int) (a1 : Int) (a2 : Int) : Option (Int) := impl_cellNo.l0 k a0 a1 a2 a1 1
theorem impl_cellNo.mono_l : ∀ k, (∀ y0 y1 y2 y3 y4, LeO (impl_cellNo.l0 k y0 y1 y2 y3 y4) (impl_cellNo.l0 (k + 1) y0 y1 y2 y3 y4))
 | 0 => fun _ _ _ _ _ r h => by simp [impl_cellNo.l0] at h
 | k + 1 => by
  have nb := impl_cellNo.mono_l k
  · intro y0 y1 y2 y3 y4; unfold impl_cellNo.l0
    repeat' first
    | (with_reducible exact nb _ _ _ _ _)
    | (with_reducible exact LeO.refl _)
    | (with_reducible exact LeO.none _)
    | (with_reducible refine LeO.ite ?_ ?_)
    | (with_reducible refine LeO.bind ?_ (fun _ => ?_))
    | exact nb _ _ _ _ _
    | exact LeO.none _
    | refine LeO.ite ?_ ?_
    | refine LeO.bind ?_ (fun _ => ?_)
theorem impl_cellNo.mono : ∀ a0 a1 a2 k, LeO (impl_cellNo.f k a0 a1 a2) (impl_cellNo.f (k + 1) a0 a1 a2) := by
 intro a0 a1 a2 k; have nb := impl_cellNo.mono_l k; unfold impl_cellNo.f
 repeat' first
  | (with_reducible exact nb _ _ _ _ _)
  | (with_reducible exact LeO.refl _)
  | (with_reducible exact LeO.none _)
  | (with_reducible refine LeO.ite ?_ ?_)
  | (with_reducible refine LeO.bind ?_ (fun _ => ?_))
  | exact nb _ _ _ _ _
  | exact LeO.none _
  | refine LeO.ite ?_ ?_
  | refine LeO.bind ?_ (fun _ => ?_)
set_option maxHeartbeats 8000000 in
set_option maxRecDepth 100000 in
theorem impl_cellNo.calls (k : Nat) (a0 : Int) (a1 : Int) (a2 : Int) (r : Int) (w : World) (h : impl_cellNo.f k a0 a1 a2 = some r) :
 Calls Try.prog 79 #[.int .i64 a0, .int .i64 a1, .int .i64 a2] w fun e w' => e = .returned (.int .i64 r) ∧ Drawn0 w w' := by
 have H : (impl_cellNo.l0 k a0 a1 a2 a1 1) = some r := h; clear h; have H' := zA H; clear H; go_enter Try.func79, Try.ntmps79; go_wp2; go_loopg [7, 8] k (fun kq v7 v8 w' => ∃ (dj : Int) (b2 : Int), v7 = .int .i64 dj ∧ v8 = .int .i64 b2 ∧ Aside0 (impl_cellNo.l0 kq a0 a1 a2 dj b2 = some r) ∧ Aside0 (kq ≤ k) ∧ Drawn0 w w')
 case atStart => exact ⟨(a1), (1), zz16, zz16, H', ⟨Nat.le_refl _⟩, zz14⟩
 case round =>
  clear H'; (try clear p2); obtain ⟨dj, b2, rfl, rfl, HA, bM, ⟨m1, rfl⟩⟩ := hrel; cases gk with
  | zero => exact absurd HA.out (by simp [impl_cellNo.l0])
  | succ k1 =>
   have H := HA.out; clear HA; simp only [impl_cellNo.l0] at H; by_cases c4 : b2 < (wrap64 (a2 - a1))
   · rw [if_pos c4] at H; have dp := decide_eq_true c4; clear c4; have H' := zA H; clear H; go_wp2
     go_roundg k1
     case measure => have := bM.out; omega
     case rel => exact ⟨(wrap64 (dj + (wrap64 ((wrap64 (a0 - b2)) + 1)))), (wrap64 (b2 + 1)), zz16, zz16, H', ⟨zz1e bM⟩, zz14⟩
   · rw [if_neg c4] at H; have dp := decide_eq_false c4; clear c4; obtain rfl := Option.some.inj H; go_wp2; go_ret; exact ⟨zz16, zz14⟩
end Go.Proofs.Ytkocahlifffgjaa.P
namespace Go.Proofs.Ytkocahlifffgjaa.P
open Go.RowKit Go.Proofs.YtkocahlifffgjaaW.PrintWords
set_option linter.unusedVariables false
set_option linter.unusedSimpArgs false
theorem no_all : ∀ n f t : Fin 11, f.val < t.val → t.val ≤ n.val → spec_l7No.f 20 n.val f.val t.val = impl_cellNo.f 20 n.val f.val t.val ∧ (match spec_l7No.f 20 n.val f.val t.val with | some r => decide (0 ≤ r ∧ r < wrap64 (Int.tdiv (wrap64 ((n.val : Int) * (wrap64 ((n.val : Int) + 1)))) 2)) | none => false) = true := by decide +kernel
theorem no_at (n f t : Int) (hn : n ≤ 10) (hf : 0 ≤ f) (hft : f < t) (htn : t ≤ n) : ∃ r : Int, (∀ k, 20 ≤ k → spec_l7No.f k n f t = some r) ∧ (∀ k, 20 ≤ k → impl_cellNo.f k n f t = some r) ∧ 0 ≤ r ∧ r < wrap64 (Int.tdiv (wrap64 (n * (wrap64 (n + 1)))) 2) := by
 obtain ⟨n, rfl⟩ : ∃ m : Nat, n = m := ⟨n.toNat, zz1n⟩
 obtain ⟨f, rfl⟩ : ∃ m : Nat, f = m := ⟨f.toNat, zz1n⟩
 obtain ⟨t, rfl⟩ : ∃ m : Nat, t = m := ⟨t.toNat, zz1n⟩
 obtain ⟨h1, h2⟩ := no_all ⟨n, zz1n⟩ ⟨f, zz1n⟩ ⟨t, zz1n⟩ (by show f < t; omega) (by show t ≤ n; omega); dsimp only at h1 h2; cases hv : spec_l7No.f 20 n f t with
 | none => rw [hv] at h2; cases h2
 | some r =>
  rw [hv] at h2; have h3 := of_decide_eq_true h2; rw [hv] at h1; refine ⟨r, fun k hk => at_rounds (g := fun k => spec_l7No.f k n f t) (fun k => spec_l7No.mono _ _ _ k) hk hv, fun k hk => at_rounds (g := fun k => impl_cellNo.f k n f t) (fun k => impl_cellNo.mono _ _ _ k) hk h1.symm, h3.1, h3.2⟩
end Go.Proofs.Ytkocahlifffgjaa.P
namespace Go.Proofs.Ytkocahlifffgjaa.P
open Go.RowKit Go.Proofs.YtkocahlifffgjaaW.PrintWords Go.Proofs.YtkocahlifffgjaaW.PrintLast Go.Proofs.YtkocahlifffgjaaW.PrintMore
attribute [local go_sem] max2_int min2_int max_two min_two max_three min_three max_four min_four
set_option linter.unusedVariables false
set_option linter.unusedSimpArgs false
def slices_Index_int_int.l0 : Nat → List Int → Int → Int → Int → Option (Int)
 | 0, _, _, _, _ => none
 | k + 1, x0, x1, x7, x8 => if x8 < x7 then (if 0 ≤ x8 then (if x8 < (x0.length : Int) then (if x1 = (rd x0 x8) then (some x8) else (slices_Index_int_int.l0 k x0 x1 x7 (wrap64 (x8 + 1)))) else (none)) else (none)) else (some (-1))
def slices_Index_int_int.f (k : Nat) (l0 : List Int) (a1 : Int) : Option (Int) := slices_Index_int_int.l0 k l0 a1 (l0.length : Int) 0
set_option maxHeartbeats 8000000 in
set_option maxRecDepth 100000 in
theorem slices_Index_int_int.calls (k : Nat) (A0 : Option Addr) (c0 : Nat) (l0 : List Int) (a1 : Int) (r : Int) (w : World) (dK : Kd.C (Kd.int .i64) w A0 l0.length l0) (dL : l0.length ≤ c0) (h : slices_Index_int_int.f k l0 a1 = some r) :
 Calls Try.prog 99 #[.slice A0 l0.length c0, .int .i64 a1] w fun e w' => e = .returned (.int .i64 r) ∧ Drawn0 w w' := by
 have dx := zA dK; have iG := zA dL; clear dK dL; have H : (slices_Index_int_int.l0 k l0 a1 (l0.length : Int) 0) = some r := h; clear h; have H' := zA H; clear H; go_enter Try.func99, Try.ntmps99; go_wp2; go_loopg [8] k (fun kq v8 w' => ∃ (b2 : Int), v8 = .int .i64 b2 ∧ Aside0 (slices_Index_int_int.l0 kq l0 a1 (l0.length : Int) b2 = some r) ∧ Aside0 (kq ≤ k) ∧ Drawn0 w w')
 case atStart => exact ⟨(0), zz16, H', ⟨Nat.le_refl _⟩, zz14⟩
 case round =>
  clear H'; (try clear p2); obtain ⟨b2, rfl, HA, bM, ⟨m1, rfl⟩⟩ := hrel; cases gk with
  | zero => exact absurd HA.out (by simp [slices_Index_int_int.l0])
  | succ k1 =>
   have H := HA.out; clear HA; simp only [slices_Index_int_int.l0] at H; by_cases c3 : b2 < (l0.length : Int)
   · rw [if_pos c3] at H; have cS := decide_eq_true c3; clear c3; replace H := zIn H; obtain ⟨c4, H⟩ := H; have dp : decide (0 ≤ b2) = true := decide_eq_true c4; clear c4; replace H := zIn H; obtain ⟨c5, H⟩ := H; have e5 : decide (b2 < (l0.length : Int)) = true := decide_eq_true c5; clear c5; by_cases c6 : a1 = (rd l0 b2)
     · rw [if_pos c6] at H; have dq : (a1 == (rd l0 b2)) = true := beq_iff_eq.mpr c6; have hI : (a1 != (rd l0 b2)) = false := bne_eq_false_iff_eq.mpr c6; clear c6; obtain rfl := Option.some.inj H; have aU : 0 ≤ (b2 : Int) := of_decide_eq_true zz1i; have aV : b2 < (l0.length : Int) := of_decide_eq_true zz1i; obtain ⟨bi, bV, bc⟩ := Kd.at_int dx.out b2 aU aV; cases bV; replace aU := eq_true aU; replace aV := eq_true aV; go_wp2; go_ret; exact ⟨zz16, zz14⟩
     · rw [if_neg c6] at H; have dq : (a1 == (rd l0 b2)) = false := beq_eq_false_iff_ne.mpr c6; have hI : (a1 != (rd l0 b2)) = true := bne_iff_ne.mpr c6; have H' := zA H; clear H; have aU : 0 ≤ (b2 : Int) := of_decide_eq_true zz1i; have aV : b2 < (l0.length : Int) := of_decide_eq_true zz1i; obtain ⟨bi, bV, bc⟩ := Kd.at_int dx.out b2 aU aV; cases bV; replace aU := eq_true aU; replace aV := eq_true aV; go_wp2
       go_roundg k1
       case measure => have := bM.out; omega
       case rel => exact ⟨(wrap64 (b2 + 1)), zz16, H', ⟨zz1e bM⟩, zz14⟩
   · rw [if_neg c3] at H; have cS := decide_eq_false c3; clear c3; obtain rfl := Option.some.inj H; go_wp2; go_ret; exact ⟨zz16, zz14⟩
def slices_Contains_int_int.f (k : Nat) (l0 : List Int) (a1 : Int) : Option (Bool) := (slices_Index_int_int.f k l0 a1).bind fun ee => (some (decide (ee ≥ 0)))
set_option maxHeartbeats 8000000 in
set_option maxRecDepth 100000 in
theorem slices_Contains_int_int.calls (k : Nat) (A0 : Option Addr) (c0 : Nat) (l0 : List Int) (a1 : Int) (r : Bool) (w : World) (dK : Kd.C (Kd.int .i64) w A0 l0.length l0) (dL : l0.length ≤ c0) (h : slices_Contains_int_int.f k l0 a1 = some r) :
 Calls Try.prog 64 #[.slice A0 l0.length c0, .int .i64 a1] w fun e w' => e = .returned (.bool r) ∧ Drawn0 w w' := by
 have dx := zA dK; have iG := zA dL; clear dK dL; have H : ((slices_Index_int_int.f k l0 a1).bind fun ee => (some (decide (ee ≥ 0)))) = some r := h; clear h; replace H := Option.bind_eq_some_iff.mp H; obtain ⟨ee, g0, H⟩ := H; have A3 := zA g0; clear g0; obtain rfl := Option.some.inj H; go_enter Try.func64, Try.ntmps64; go_wp2_with (first | ((with_reducible refine gate_callee (f := 99) rfl ?_); refine goesL_ (some 7) rfl rfl Try.func99 zz1j rfl #[.slice A0 l0.length c0, .int .i64 a1] rfl zz0i ?_; (with_reducible refine (slices_Index_int_int.calls k _ _ l0 a1 ee _ ?ak ?al A3.out).mono ?_); (case ak => repeat (first | exact dx.out | refine zP ?_ _ | refine zQ ?_ _ | refine zR ?_)); (case al => exact iG.out); rintro e w' ⟨rfl, ⟨nd, rfl⟩⟩; refine ⟨_, rfl, ?_⟩)); go_ret; exact ⟨zz16, zz14⟩
end Go.Proofs.Ytkocahlifffgjaa.P
namespace Go.Proofs.Ytkocahlifffgjaa.P
open Go.RowKit Go.Proofs.YtkocahlifffgjaaW.PrintWords
set_option linter.unusedVariables false
set_option linter.unusedSimpArgs false
theorem index_loop (l : List Int) (x : Int) (hb : l.length ≤ 9223372036854775807) (d : Nat) : ∀ (k i : Nat), i ≤ l.length → l.length - i = d → d < k →
 ∃ t, slices_Index_int_int.l0 k l x l.length i = some t ∧ (t ≥ 0 ↔ x ∈ l.drop i) := by
 induction d with
 | zero =>
  intro k i h1 hd hk; obtain ⟨k, rfl⟩ : ∃ m, k = m + 1 := ⟨k - 1, zz1n⟩
  refine ⟨-1, ?_, ?_⟩
  · simp only [slices_Index_int_int.l0]; rw [if_neg zz1n]
  · rw [List.drop_of_length_le zz1n]; simp
 | succ d ih =>
  intro k i h1 hd hk; obtain ⟨k, rfl⟩ : ∃ m, k = m + 1 := ⟨k - 1, zz1n⟩
  have ed : l.drop i = rd l i :: l.drop (i + 1) := getD_drop l i 0 zz1n; obtain ⟨t, e, ht⟩ := ih k (i + 1) zz1n zz1n zz1n; by_cases c : x = rd l i
  · refine ⟨i, ?_, ?_⟩
    · simp only [slices_Index_int_int.l0]; rw [if_pos zz1n, if_pos zz1n, if_pos zz1n, if_pos c]
    · rw [ed]; exact ⟨fun _ => by rw [c]; exact List.mem_cons_self, fun _ => by omega⟩
  · refine ⟨t, ?_, ?_⟩
    · simp only [slices_Index_int_int.l0]; rw [if_pos zz1n, if_pos zz1n, if_pos zz1n, if_neg c, wsuccL (show i < l.length by omega) hb, e]
    · rw [ht, ed, List.mem_cons]; exact ⟨.inr, fun h => h.resolve_left c⟩
theorem contains_eq (l : List Int) (x : Int) (hb : l.length ≤ 9223372036854775807) (k : Nat) (hk : l.length < k) : slices_Contains_int_int.f k l x = some (decide (x ∈ l)) := by
 unfold slices_Contains_int_int.f slices_Index_int_int.f; obtain ⟨t, e, ht⟩ := index_loop l x hb l.length k 0 (Nat.zero_le _) rfl hk; rw [show ((0 : Nat) : Int) = 0 from rfl] at e; rw [e]; simp only [Option.bind_some]; rw [List.drop_zero] at ht; exact congrArg some (decide_eq_decide.2 ht)
end Go.Proofs.Ytkocahlifffgjaa.P
namespace Go.Proofs.Ytkocahlifffgjaa.P
open Go.RowKit Go.Proofs.YtkocahlifffgjaaW.PrintWords Go.Proofs.YtkocahlifffgjaaW.PrintLast Go.Proofs.YtkocahlifffgjaaW.PrintMore
set_option linter.unusedVariables false
set_option linter.unusedSimpArgs false
def tokB (toks x : Int) : Bool := decide (0 ≤ x ∧ x ≤ wrap64 (toks - 1))
set_option maxHeartbeats 2000000 in
theorem pred_tok (toks : Int) (B : Nat) (w : World) (hB : B < w.heap.size) (hcB : w.cell? ⟨B, 0, none⟩ = some (.int .i64 toks)) :
 PredI 104 #[.pointer (some ⟨B, 0, none⟩)] (fun x => !tokB toks x) w := fun W x hb => by
 have h1 : W.cell? ⟨B, 0, none⟩ = some (.int .i64 toks) := (hb.cell (p := ⟨B, 0, none⟩) hB).trans hcB; have hc := fun w => impl_in.calls x 0 (wrap64 (toks - 1)) _ w (impl_in_eq x 0 (wrap64 (toks - 1)))
 clear hb hcB; show Calls Try.prog 104 #[.int .i64 x, .pointer (some ⟨B, 0, none⟩)] W fun e w' => e = .returned (.bool (!decide (0 ≤ x ∧ x ≤ wrap64 (toks - 1)))) ∧ Below W.heap.size W w'
 generalize decide (0 ≤ x ∧ x ≤ wrap64 (toks - 1)) = b at hc ⊢; go_enter Try.func104, Try.ntmps104; go_wp2_with (go_at_call 85; refine (hc _).mono ?_; rintro e w' ⟨rfl, hd⟩); go_ret; exact ⟨rfl, drawn_below hd⟩
def wordB (t : Int) (l : List Int) : Bool := decide (l.length ≤ 10) && !(l.any fun x => !tokB t x)
def impl_isWord.f (a0 : Int) (l1 : List Int) : Option Bool := some (decide (l1.length ≤ 10) && !(l1.any fun x => !tokB a0 x))
set_option maxHeartbeats 2000000 in
theorem impl_isWord.calls (a0 : Int) (A1 : Option Addr) (c1 : Nat) (l1 : List Int) (r : Bool) (w : World) (hr1 : Kd.C (Kd.int .i64) w A1 l1.length l1) (hc1 : l1.length ≤ c1) (h : impl_isWord.f a0 l1 = some r) :
 Calls Try.prog 71 #[.int .i64 a0, .slice A1 l1.length c1] w fun e w' => e = .returned (.bool r) ∧ Below w.heap.size w w' := by
 obtain rfl := Option.some.inj h; clear h; have eg : ∀ args w, (callFunc 104 args).run Try.prog w = .ok (.enter 104 args) w := enters_of Try.func104 zz1j rfl; have H := zA fun (W : World) (B : Nat) (hW : Below w.heap.size w W) (hB : B < W.heap.size) (hcB : W.cell? ⟨B, 0, none⟩ = some (.int .i64 a0)) =>
  containsFunc_int _ #[.pointer (some ⟨B, 0, none⟩)] eg (fun x => !tokB a0 x) A1 c1 l1 W (zS hr1 hW) hc1 (pred_tok a0 B W hB hcB)
 clear hr1 hc1 eg; generalize (l1.any fun x => !tokB a0 x) = b at H ⊢; by_cases hl : l1.length ≤ 10
 · have hd : decide (l1.length ≤ 10) = true := decide_eq_true hl; have hd2 : decide ((l1.length : Int) ≤ 10) = true := decide_eq_true zz1n; clear hl; go_enter Try.func71, Try.ntmps71; go_wp2_with (go_at_call 103; refine (H.out _ _ zz15 (by simp <;> omega) zz1o).mono ?_; rintro e w' ⟨rfl, hb'⟩); go_ret; exact ⟨by simp [hd], zG zz15 hb'⟩
 · have hd : decide (l1.length ≤ 10) = false := decide_eq_false hl; have hd2 : decide ((l1.length : Int) ≤ 10) = false := decide_eq_false zz1n; clear hl; go_enter Try.func71, Try.ntmps71; go_wp2; go_ret; exact ⟨by simp [hd], zz15⟩
end Go.Proofs.Ytkocahlifffgjaa.P
namespace Go.Proofs.Ytkocahlifffgjaa.P
open Go.RowKit Go.Proofs.YtkocahlifffgjaaW.PrintWords Go.Proofs.YtkocahlifffgjaaW.PrintLast Go.Proofs.YtkocahlifffgjaaW.PrintMore
attribute [local go_sem] max2_int min2_int max_two min_two max_three min_three max_four min_four
set_option linter.unusedVariables false
set_option linter.unusedSimpArgs false
def spec_l1All.l0 : Nat → Int → Int → List Int → Int → Int → Option (Bool)
 | 0, _, _, _, _, _ => none
 | k + 1, x1, x2, x9, lU, eg => if eg < lU then (if 0 ≤ eg then (if eg < (x9.length : Int) then ((spec_l1In.f (rd x9 eg) x1 x2).bind fun aG => (if aG = true then (spec_l1All.l0 k x1 x2 x9 lU (wrap64 (eg + 1))) else (some false))) else (none)) else (none)) else (some true)
def spec_l1All.f (k : Nat) (l0 : List Int) (a1 : Int) (a2 : Int) : Option (Bool) := spec_l1All.l0 k a1 a2 l0 (l0.length : Int) 0
set_option maxHeartbeats 8000000 in
set_option maxRecDepth 100000 in
theorem spec_l1All.calls (k : Nat) (A0 : Option Addr) (c0 : Nat) (l0 : List Int) (a1 : Int) (a2 : Int) (r : Bool) (w : World) (dK : Kd.C (Kd.int .i64) w A0 l0.length l0) (dL : l0.length ≤ c0) (h : spec_l1All.f k l0 a1 a2 = some r) :
 Calls Try.prog 101 #[.slice A0 l0.length c0, .int .i64 a1, .int .i64 a2] w fun e w' => e = .returned (.bool r) ∧ Drawn0 w w' := by
 have dx := zA dK; have iG := zA dL; clear dK dL; have H : (spec_l1All.l0 k a1 a2 l0 (l0.length : Int) 0) = some r := h; clear h; have H' := zA H; clear H; go_enter Try.func101, Try.ntmps101; go_wp2; go_loopg [11] k (fun kq ki w' => ∃ (aC : Int), ki = .int .i64 aC ∧ Aside0 (spec_l1All.l0 kq a1 a2 l0 (l0.length : Int) aC = some r) ∧ Aside0 (kq ≤ k) ∧ Drawn0 w w')
 case atStart => exact ⟨(0), zz16, H', ⟨Nat.le_refl _⟩, zz14⟩
 case round =>
  clear H'; (try clear c1); (try clear p2); obtain ⟨aC, rfl, HA, bM, ⟨m1, rfl⟩⟩ := hrel; cases gk with
  | zero => exact absurd HA.out (by simp [spec_l1All.l0])
  | succ k1 =>
   have H := HA.out; clear HA; simp only [spec_l1All.l0] at H; by_cases c4 : aC < (l0.length : Int)
   · rw [if_pos c4] at H; have dp := decide_eq_true c4; clear c4; replace H := zIn H; obtain ⟨c5, H⟩ := H; have e5 : decide (0 ≤ aC) = true := decide_eq_true c5; clear c5; replace H := zIn H; obtain ⟨c6, H⟩ := H; have dq : decide (aC < (l0.length : Int)) = true := decide_eq_true c6; clear c6; replace H := Option.bind_eq_some_iff.mp H; obtain ⟨aG, kS, H⟩ := H; have A7 := zA kS; clear kS; by_cases c8 : aG = true
     · subst c8; rw [if_pos rfl] at H; have H' := zA H; clear H; have aU : 0 ≤ (aC : Int) := of_decide_eq_true zz1i; have aV : aC < (l0.length : Int) := of_decide_eq_true zz1i; obtain ⟨bi, bV, bc⟩ := Kd.at_int dx.out aC aU aV; cases bV; replace aU := eq_true aU; replace aV := eq_true aV; go_wp2_with (first | ((with_reducible refine gate_callee (f := 81) rfl ?_); refine goesL_ (some 18) rfl rfl Try.func81 zz1j rfl #[.int .i64 (rd l0 aC), .int .i64 a1, .int .i64 a2] rfl zz0i ?_; (with_reducible refine (spec_l1In.calls (rd l0 aC) a1 a2 true _ A7.out).mono ?_); rintro e w' ⟨rfl, ⟨nd, rfl⟩⟩; refine ⟨_, rfl, ?_⟩))
       go_roundg k1
       case measure => have := bM.out; omega
       case rel => exact ⟨(wrap64 (aC + 1)), zz16, H', ⟨zz1e bM⟩, zz14⟩
     · replace c8 := Bool.eq_false_iff.mpr c8; subst c8; rw [if_neg zFt] at H; obtain rfl := Option.some.inj H; have aU : 0 ≤ (aC : Int) := of_decide_eq_true zz1i; have aV : aC < (l0.length : Int) := of_decide_eq_true zz1i; obtain ⟨bi, bV, bc⟩ := Kd.at_int dx.out aC aU aV; cases bV; replace aU := eq_true aU; replace aV := eq_true aV; go_wp2_with (first | ((with_reducible refine gate_callee (f := 81) rfl ?_); refine goesL_ (some 18) rfl rfl Try.func81 zz1j rfl #[.int .i64 (rd l0 aC), .int .i64 a1, .int .i64 a2] rfl zz0i ?_; (with_reducible refine (spec_l1In.calls (rd l0 aC) a1 a2 false _ A7.out).mono ?_); rintro e w' ⟨rfl, ⟨nd, rfl⟩⟩; refine ⟨_, rfl, ?_⟩)); go_ret; exact ⟨zz16, zz14⟩
   · rw [if_neg c4] at H; have dp := decide_eq_false c4; clear c4; obtain rfl := Option.some.inj H; go_wp2; go_ret; exact ⟨zz16, zz14⟩
def spec_l7Has.f (k : Nat) (ah : Int) (ai : Int) (ab : List (List Int)) (ae : List (List Int)) (ag : List Int) (af : List (List Int)) (bQ : Int) (bp : List (List Int)) (l2 : List Int) (a3 : Int) (a4 : Int) (a5 : Int) : Option (Bool) := if a3 < 0 then (if a5 = (wrap64 (a4 + 1)) then (if 0 ≤ a4 then (if a4 < (l2.length : Int) then (some ((rd l2 a4) == (wrap64 ((-1) - a3)))) else (none)) else (none)) else (some false)) else ((spec_l7No.f k bQ a4 a5).bind fun aY => (if 0 ≤ aY then (if aY < (bp.length : Int) then ((spec_l1Has.f k (rd_L1 bp aY) a3).bind fun cL => (some cL)) else (none)) else (none)))
set_option maxHeartbeats 8000000 in
set_option maxRecDepth 100000 in
theorem spec_l7Has.calls (k : Nat) (ah : Int) (ai : Int) (ay : Option Addr) (ap : Nat) (ab : List (List Int)) (ax : Option Addr) (au : Nat) (ae : List (List Int)) (aq : Option Addr) (ar : Nat) (ag : List Int) (av : Option Addr) (aw : Nat) (af : List (List Int)) (bQ : Int) (cH : Option Addr) (cI : Nat) (bp : List (List Int)) (A2 : Option Addr) (c2 : Nat) (l2 : List Int) (a3 : Int) (a4 : Int) (a5 : Int) (r : Bool) (w : World) (bw : Kd.C (Kd.slice 3 (Kd.int .i64)) w ay ab.length ab) (bx : ab.length ≤ ap) (bz : Kd.C (Kd.slice 3 (Kd.int .i64)) w ax ae.length ae) (bA : ae.length ≤ au) (bB : Kd.C (Kd.int .i64) w aq ag.length ag) (bC : ag.length ≤ ar) (bD : Kd.C (Kd.slice 3 (Kd.int .i64)) w av af.length af) (bE : af.length ≤ aw) (hh : Kd.C (Kd.slice 3 (Kd.int .i64)) w cH bp.length bp) (hj : bp.length ≤ cI) (oS : Kd.C (Kd.int .i64) w A2 l2.length l2) (oT : l2.length ≤ c2) (h : spec_l7Has.f k ah ai ab ae ag af bQ bp l2 a3 a4 a5 = some r) :
 Calls Try.prog 146 #[.agg #[.int .i64 ah, .int .i64 ai, .slice ay ab.length ap, .slice ax ae.length au, .slice aq ag.length ar, .slice av af.length aw], .agg #[.int .i64 bQ, .slice cH bp.length cI], .slice A2 l2.length c2, .int .i64 a3, .int .i64 a4, .int .i64 a5] w fun e w' => e = .returned (.bool r) ∧ Below w.heap.size w w' := by
 have hu29 := Try.underlying29; have hu52 := Try.underlying52; have bm := zA bw; have bF := zA bx; clear bw bx; have bq := zA bz; have bG := zA bA; clear bz bA; have bH := zA bB; have bI := zA bC; clear bB bC; have bJ := zA bD; have bN := zA bE; clear bD bE; have eB := zA hh; have fv := zA hj; clear hh hj; have j8 := zA oS; have kd := zA oT; clear oS oT; have HB := zA (Below.refl w.heap.size w); have H : (if a3 < 0 then (if a5 = (wrap64 (a4 + 1)) then (if 0 ≤ a4 then (if a4 < (l2.length : Int) then (some ((rd l2 a4) == (wrap64 ((-1) - a3)))) else (none)) else (none)) else (some false)) else ((spec_l7No.f k bQ a4 a5).bind fun aY => (if 0 ≤ aY then (if aY < (bp.length : Int) then ((spec_l1Has.f k (rd_L1 bp aY) a3).bind fun cL => (some cL)) else (none)) else (none)))) = some r := h; clear h; by_cases c7 : a3 < 0
 · rw [if_pos c7] at H; have dy := decide_eq_true c7; clear c7; by_cases c8 : a5 = (wrap64 (a4 + 1))
   · rw [if_pos c8] at H; have dY : (a5 == (wrap64 (a4 + 1))) = true := beq_iff_eq.mpr c8; have mx : (a5 != (wrap64 (a4 + 1))) = false := bne_eq_false_iff_eq.mpr c8; clear c8; replace H := zIn H; obtain ⟨c9, H⟩ := H; have eR : decide (0 ≤ a4) = true := decide_eq_true c9; clear c9; replace H := zIn H; obtain ⟨e8, H⟩ := H; have ge : decide (a4 < (l2.length : Int)) = true := decide_eq_true e8; clear e8; obtain rfl := Option.some.inj H; go_enter Try.func146, Try.ntmps146; go_wp2_with (first | ((with_reducible refine gate_dst (N := 6) rfl ?_); refine box_event ?hg (N := 6) ?hd (cs := #[.int .i64 ah, .int .i64 ai, .slice ay ab.length ap, .slice ax ae.length au, .slice aq ag.length ar, .slice av af.length aw]) (t := 29) ?hr ?_; (case hd => rfl); (case hg => rfl); (case hr => first | (go_simp; done) | (go_simp; rfl)); intro ad hg iv hbox hb; have aa := zA (hbox); have ce := zA ((by rw [hg]; exact (zF (zz0y HB)) : w.heap.size ≤ ad)); have ac := zA ((by rw [hg]; exact (zF (zz0y HB)) : w.heap.size ≤ ad)); replace HB := zA (zG (zz0y HB) hb); clear hb hbox hg) | ((with_reducible refine gate_dst (N := 7) rfl ?_); refine box_event ?hg (N := 7) ?hd (cs := #[.int .i64 bQ, .slice cH bp.length cI]) (t := 52) ?hr ?_; (case hd => rfl); (case hg => rfl); (case hr => first | (go_simp; done) | (go_simp; rfl)); intro an hg lZ hbox hb; have aj := zA (hbox); have ex := zA ((by rw [hg]; exact (zF (zz0p HB ac)) : w.heap.size ≤ an)); have aA := zA ((by rw [hg]; exact (zF (zz0p HB ac)) : w.heap.size ≤ an)); replace HB := zA (zG (zz0p HB ac) hb); have bn := zA ((by rw [hg]; exact Nat.ne_of_lt (blk_lt (g := ad) (o := .cells #[.int .i64 ah, .int .i64 ai, .slice ay ab.length ap, .slice ax ae.length au, .slice aq ag.length ar, .slice av af.length aw] 29 (0, 0)) (zz10 aa)) : ad ≠ an)); have bo := zA ((by rw [hg]; exact Nat.ne_of_gt (blk_lt (g := ad) (o := .cells #[.int .i64 ah, .int .i64 ai, .slice ay ab.length ap, .slice ax ae.length au, .slice aq ag.length ar, .slice av af.length aw] 29 (0, 0)) (zz10 aa)) : an ≠ ad)); replace aa := zA (zMp aa.out hb); clear hb hbox hg; have cm : 0 ≤ (a4 : Int) := of_decide_eq_true zz1i; have cn : a4 < (l2.length : Int) := of_decide_eq_true zz1i; obtain ⟨du, ew, bd⟩ := Kd.at_int j8.out a4 cm cn; cases ew; replace bd := (HB.out.cell (World.block_lt_of_cell? w _ bd)).trans bd; replace cm := eq_true cm; replace cn := eq_true cn)); (repeat (go_quiet (first | ((with_reducible refine gate_dst (N := 6) rfl ?_); refine box_event ?hg (N := 6) ?hd (cs := #[.int .i64 ah, .int .i64 ai, .slice ay ab.length ap, .slice ax ae.length au, .slice aq ag.length ar, .slice av af.length aw]) (t := 29) ?hr ?_; (case hd => rfl); (case hg => rfl); (case hr => first | (go_simp; done) | (go_simp; rfl)); intro ad hg iv hbox hb; have aa := zA (hbox); have ce := zA ((by rw [hg]; exact (zF (zz0y HB)) : w.heap.size ≤ ad)); have ac := zA ((by rw [hg]; exact (zF (zz0y HB)) : w.heap.size ≤ ad)); replace HB := zA (zG (zz0y HB) hb); clear hb hbox hg) | ((with_reducible refine gate_dst (N := 7) rfl ?_); refine box_event ?hg (N := 7) ?hd (cs := #[.int .i64 bQ, .slice cH bp.length cI]) (t := 52) ?hr ?_; (case hd => rfl); (case hg => rfl); (case hr => first | (go_simp; done) | (go_simp; rfl)); intro an hg lZ hbox hb; have aj := zA (hbox); have ex := zA ((by rw [hg]; exact (zF (zz0p HB ac)) : w.heap.size ≤ an)); have aA := zA ((by rw [hg]; exact (zF (zz0p HB ac)) : w.heap.size ≤ an)); replace HB := zA (zG (zz0p HB ac) hb); have bn := zA ((by rw [hg]; exact Nat.ne_of_lt (blk_lt (g := ad) (o := .cells #[.int .i64 ah, .int .i64 ai, .slice ay ab.length ap, .slice ax ae.length au, .slice aq ag.length ar, .slice av af.length aw] 29 (0, 0)) (zz10 aa)) : ad ≠ an)); have bo := zA ((by rw [hg]; exact Nat.ne_of_gt (blk_lt (g := ad) (o := .cells #[.int .i64 ah, .int .i64 ai, .slice ay ab.length ap, .slice ax ae.length au, .slice aq ag.length ar, .slice av af.length aw] 29 (0, 0)) (zz10 aa)) : an ≠ ad)); replace aa := zA (zMp aa.out hb); clear hb hbox hg; have cm : 0 ≤ (a4 : Int) := of_decide_eq_true zz1i; have cn : a4 < (l2.length : Int) := of_decide_eq_true zz1i; obtain ⟨du, ew, bd⟩ := Kd.at_int j8.out a4 cm cn; cases ew; replace bd := (HB.out.cell (World.block_lt_of_cell? w _ bd)).trans bd; replace cm := eq_true cm; replace cn := eq_true cn)); try go_wp2_with (first | ((with_reducible refine gate_dst (N := 6) rfl ?_); refine box_event ?hg (N := 6) ?hd (cs := #[.int .i64 ah, .int .i64 ai, .slice ay ab.length ap, .slice ax ae.length au, .slice aq ag.length ar, .slice av af.length aw]) (t := 29) ?hr ?_; (case hd => rfl); (case hg => rfl); (case hr => first | (go_simp; done) | (go_simp; rfl)); intro ad hg iv hbox hb; have aa := zA (hbox); have ce := zA ((by rw [hg]; exact (zF (zz0y HB)) : w.heap.size ≤ ad)); have ac := zA ((by rw [hg]; exact (zF (zz0y HB)) : w.heap.size ≤ ad)); replace HB := zA (zG (zz0y HB) hb); clear hb hbox hg) | ((with_reducible refine gate_dst (N := 7) rfl ?_); refine box_event ?hg (N := 7) ?hd (cs := #[.int .i64 bQ, .slice cH bp.length cI]) (t := 52) ?hr ?_; (case hd => rfl); (case hg => rfl); (case hr => first | (go_simp; done) | (go_simp; rfl)); intro an hg lZ hbox hb; have aj := zA (hbox); have ex := zA ((by rw [hg]; exact (zF (zz0p HB ac)) : w.heap.size ≤ an)); have aA := zA ((by rw [hg]; exact (zF (zz0p HB ac)) : w.heap.size ≤ an)); replace HB := zA (zG (zz0p HB ac) hb); have bn := zA ((by rw [hg]; exact Nat.ne_of_lt (blk_lt (g := ad) (o := .cells #[.int .i64 ah, .int .i64 ai, .slice ay ab.length ap, .slice ax ae.length au, .slice aq ag.length ar, .slice av af.length aw] 29 (0, 0)) (zz10 aa)) : ad ≠ an)); have bo := zA ((by rw [hg]; exact Nat.ne_of_gt (blk_lt (g := ad) (o := .cells #[.int .i64 ah, .int .i64 ai, .slice ay ab.length ap, .slice ax ae.length au, .slice aq ag.length ar, .slice av af.length aw] 29 (0, 0)) (zz10 aa)) : an ≠ ad)); replace aa := zA (zMp aa.out hb); clear hb hbox hg; have cm : 0 ≤ (a4 : Int) := of_decide_eq_true zz1i; have cn : a4 < (l2.length : Int) := of_decide_eq_true zz1i; obtain ⟨du, ew, bd⟩ := Kd.at_int j8.out a4 cm cn; cases ew; replace bd := (HB.out.cell (World.block_lt_of_cell? w _ bd)).trans bd; replace cm := eq_true cm; replace cn := eq_true cn)))); go_ret; exact ⟨zz0z, zz0j HB ac aA⟩
   · rw [if_neg c8] at H; have dY : (a5 == (wrap64 (a4 + 1))) = false := beq_eq_false_iff_ne.mpr c8; have mx : (a5 != (wrap64 (a4 + 1))) = true := bne_iff_ne.mpr c8; obtain rfl := Option.some.inj H; go_enter Try.func146, Try.ntmps146; go_wp2_with (first | ((with_reducible refine gate_dst (N := 6) rfl ?_); refine box_event ?hg (N := 6) ?hd (cs := #[.int .i64 ah, .int .i64 ai, .slice ay ab.length ap, .slice ax ae.length au, .slice aq ag.length ar, .slice av af.length aw]) (t := 29) ?hr ?_; (case hd => rfl); (case hg => rfl); (case hr => first | (go_simp; done) | (go_simp; rfl)); intro ad hg lV hbox hb; have aa := zA (hbox); have ce := zA ((by rw [hg]; exact (zF (zz0y HB)) : w.heap.size ≤ ad)); have ac := zA ((by rw [hg]; exact (zF (zz0y HB)) : w.heap.size ≤ ad)); replace HB := zA (zG (zz0y HB) hb); clear hb hbox hg) | ((with_reducible refine gate_dst (N := 7) rfl ?_); refine box_event ?hg (N := 7) ?hd (cs := #[.int .i64 bQ, .slice cH bp.length cI]) (t := 52) ?hr ?_; (case hd => rfl); (case hg => rfl); (case hr => first | (go_simp; done) | (go_simp; rfl)); intro an hg hz hbox hb; have aj := zA (hbox); have ex := zA ((by rw [hg]; exact (zF (zz0p HB ac)) : w.heap.size ≤ an)); have aA := zA ((by rw [hg]; exact (zF (zz0p HB ac)) : w.heap.size ≤ an)); replace HB := zA (zG (zz0p HB ac) hb); have bn := zA ((by rw [hg]; exact Nat.ne_of_lt (blk_lt (g := ad) (o := .cells #[.int .i64 ah, .int .i64 ai, .slice ay ab.length ap, .slice ax ae.length au, .slice aq ag.length ar, .slice av af.length aw] 29 (0, 0)) (zz10 aa)) : ad ≠ an)); have bo := zA ((by rw [hg]; exact Nat.ne_of_gt (blk_lt (g := ad) (o := .cells #[.int .i64 ah, .int .i64 ai, .slice ay ab.length ap, .slice ax ae.length au, .slice aq ag.length ar, .slice av af.length aw] 29 (0, 0)) (zz10 aa)) : an ≠ ad)); replace aa := zA (zMp aa.out hb); clear hb hbox hg)); (repeat (go_quiet (first | ((with_reducible refine gate_dst (N := 6) rfl ?_); refine box_event ?hg (N := 6) ?hd (cs := #[.int .i64 ah, .int .i64 ai, .slice ay ab.length ap, .slice ax ae.length au, .slice aq ag.length ar, .slice av af.length aw]) (t := 29) ?hr ?_; (case hd => rfl); (case hg => rfl); (case hr => first | (go_simp; done) | (go_simp; rfl)); intro ad hg lV hbox hb; have aa := zA (hbox); have ce := zA ((by rw [hg]; exact (zF (zz0y HB)) : w.heap.size ≤ ad)); have ac := zA ((by rw [hg]; exact (zF (zz0y HB)) : w.heap.size ≤ ad)); replace HB := zA (zG (zz0y HB) hb); clear hb hbox hg) | ((with_reducible refine gate_dst (N := 7) rfl ?_); refine box_event ?hg (N := 7) ?hd (cs := #[.int .i64 bQ, .slice cH bp.length cI]) (t := 52) ?hr ?_; (case hd => rfl); (case hg => rfl); (case hr => first | (go_simp; done) | (go_simp; rfl)); intro an hg hz hbox hb; have aj := zA (hbox); have ex := zA ((by rw [hg]; exact (zF (zz0p HB ac)) : w.heap.size ≤ an)); have aA := zA ((by rw [hg]; exact (zF (zz0p HB ac)) : w.heap.size ≤ an)); replace HB := zA (zG (zz0p HB ac) hb); have bn := zA ((by rw [hg]; exact Nat.ne_of_lt (blk_lt (g := ad) (o := .cells #[.int .i64 ah, .int .i64 ai, .slice ay ab.length ap, .slice ax ae.length au, .slice aq ag.length ar, .slice av af.length aw] 29 (0, 0)) (zz10 aa)) : ad ≠ an)); have bo := zA ((by rw [hg]; exact Nat.ne_of_gt (blk_lt (g := ad) (o := .cells #[.int .i64 ah, .int .i64 ai, .slice ay ab.length ap, .slice ax ae.length au, .slice aq ag.length ar, .slice av af.length aw] 29 (0, 0)) (zz10 aa)) : an ≠ ad)); replace aa := zA (zMp aa.out hb); clear hb hbox hg)); try go_wp2_with (first | ((with_reducible refine gate_dst (N := 6) rfl ?_); refine box_event ?hg (N := 6) ?hd (cs := #[.int .i64 ah, .int .i64 ai, .slice ay ab.length ap, .slice ax ae.length au, .slice aq ag.length ar, .slice av af.length aw]) (t := 29) ?hr ?_; (case hd => rfl); (case hg => rfl); (case hr => first | (go_simp; done) | (go_simp; rfl)); intro ad hg lV hbox hb; have aa := zA (hbox); have ce := zA ((by rw [hg]; exact (zF (zz0y HB)) : w.heap.size ≤ ad)); have ac := zA ((by rw [hg]; exact (zF (zz0y HB)) : w.heap.size ≤ ad)); replace HB := zA (zG (zz0y HB) hb); clear hb hbox hg) | ((with_reducible refine gate_dst (N := 7) rfl ?_); refine box_event ?hg (N := 7) ?hd (cs := #[.int .i64 bQ, .slice cH bp.length cI]) (t := 52) ?hr ?_; (case hd => rfl); (case hg => rfl); (case hr => first | (go_simp; done) | (go_simp; rfl)); intro an hg hz hbox hb; have aj := zA (hbox); have ex := zA ((by rw [hg]; exact (zF (zz0p HB ac)) : w.heap.size ≤ an)); have aA := zA ((by rw [hg]; exact (zF (zz0p HB ac)) : w.heap.size ≤ an)); replace HB := zA (zG (zz0p HB ac) hb); have bn := zA ((by rw [hg]; exact Nat.ne_of_lt (blk_lt (g := ad) (o := .cells #[.int .i64 ah, .int .i64 ai, .slice ay ab.length ap, .slice ax ae.length au, .slice aq ag.length ar, .slice av af.length aw] 29 (0, 0)) (zz10 aa)) : ad ≠ an)); have bo := zA ((by rw [hg]; exact Nat.ne_of_gt (blk_lt (g := ad) (o := .cells #[.int .i64 ah, .int .i64 ai, .slice ay ab.length ap, .slice ax ae.length au, .slice aq ag.length ar, .slice av af.length aw] 29 (0, 0)) (zz10 aa)) : an ≠ ad)); replace aa := zA (zMp aa.out hb); clear hb hbox hg)))); go_ret; exact ⟨zz0z, zz0j HB ac aA⟩
 · rw [if_neg c7] at H; have dy := decide_eq_false c7; clear c7; replace H := Option.bind_eq_some_iff.mp H; obtain ⟨aY, nc, H⟩ := H; have rj := zA nc; clear nc; replace H := zIn H; obtain ⟨gM, H⟩ := H; have ix : decide (0 ≤ aY) = true := decide_eq_true gM; clear gM; replace H := zIn H; obtain ⟨f5, H⟩ := H; have hf : decide (aY < (bp.length : Int)) = true := decide_eq_true f5; clear f5; replace H := Option.bind_eq_some_iff.mp H; obtain ⟨cL, ne, H⟩ := H; have rk := zA ne; clear ne; obtain rfl := Option.some.inj H; go_enter Try.func146, Try.ntmps146; go_wp2_with (first | ((with_reducible refine gate_dst (N := 6) rfl ?_); refine box_event ?hg (N := 6) ?hd (cs := #[.int .i64 ah, .int .i64 ai, .slice ay ab.length ap, .slice ax ae.length au, .slice aq ag.length ar, .slice av af.length aw]) (t := 29) ?hr ?_; (case hd => rfl); (case hg => rfl); (case hr => first | (go_simp; done) | (go_simp; rfl)); intro ad hg qu hbox hb; have aa := zA (hbox); have ce := zA ((by rw [hg]; exact (zF (zz0y HB)) : w.heap.size ≤ ad)); have ac := zA ((by rw [hg]; exact (zF (zz0y HB)) : w.heap.size ≤ ad)); replace HB := zA (zG (zz0y HB) hb); clear hb hbox hg) | ((with_reducible refine gate_dst (N := 7) rfl ?_); refine box_event ?hg (N := 7) ?hd (cs := #[.int .i64 bQ, .slice cH bp.length cI]) (t := 52) ?hr ?_; (case hd => rfl); (case hg => rfl); (case hr => first | (go_simp; done) | (go_simp; rfl)); intro an hg rz hbox hb; have aj := zA (hbox); have ex := zA ((by rw [hg]; exact (zF (zz0p HB ac)) : w.heap.size ≤ an)); have aA := zA ((by rw [hg]; exact (zF (zz0p HB ac)) : w.heap.size ≤ an)); replace HB := zA (zG (zz0p HB ac) hb); have bn := zA ((by rw [hg]; exact Nat.ne_of_lt (blk_lt (g := ad) (o := .cells #[.int .i64 ah, .int .i64 ai, .slice ay ab.length ap, .slice ax ae.length au, .slice aq ag.length ar, .slice av af.length aw] 29 (0, 0)) (zz10 aa)) : ad ≠ an)); have bo := zA ((by rw [hg]; exact Nat.ne_of_gt (blk_lt (g := ad) (o := .cells #[.int .i64 ah, .int .i64 ai, .slice ay ab.length ap, .slice ax ae.length au, .slice aq ag.length ar, .slice av af.length aw] 29 (0, 0)) (zz10 aa)) : an ≠ ad)); replace aa := zA (zMp aa.out hb); clear hb hbox hg; have oU := bo.out; have oV := bn.out; obtain ⟨iY, iZ⟩ := zk2 aj.out; have lk := zL aj.out 1) | (go_at_call 76; (with_reducible refine (spec_l7No.calls k bQ a4 a5 aY _ rj.out).mono ?_); rintro e w' ⟨rfl, ⟨nd, rfl⟩⟩; (try first | exact ⟨rfl, _, World.drewN_drewN _ _ _⟩ | exact ⟨rfl, _, Eq.trans (World.drewN_drewN _ _ _) (congrArg (World.drewN _) (Nat.add_assoc _ _ _))⟩); have b9 : 0 ≤ (aY : Int) := of_decide_eq_true zz1i; have ca : aY < (bp.length : Int) := of_decide_eq_true zz1i; obtain ⟨dN, ey, ez, dA, aD, bs, bt⟩ := at_L1 eB.out aY b9 ca; cases dA; replace aD := (HB.out.cell (World.block_lt_of_cell? w _ aD)).trans aD; have bW := zA bt; have cB := zA bs; clear bt bs; replace b9 := eq_true b9; replace ca := eq_true ca) | (go_at_call 63; (with_reducible refine (spec_l1Has.calls k _ _ (rd_L1 bp aY) a3 cL _ ?ak ?al rk.out).mono ?_); (case ak => repeat (first | exact (zS bW.out (zz0j HB ac aA)) | refine zP ?_ _ | refine zQ ?_ _ | refine zR ?_)); (case al => exact cB.out); rintro e w' ⟨rfl, ⟨nd, rfl⟩⟩; (try first | exact ⟨rfl, _, World.drewN_drewN _ _ _⟩ | exact ⟨rfl, _, Eq.trans (World.drewN_drewN _ _ _) (congrArg (World.drewN _) (Nat.add_assoc _ _ _))⟩))); (repeat (go_quiet (first | ((with_reducible refine gate_dst (N := 6) rfl ?_); refine box_event ?hg (N := 6) ?hd (cs := #[.int .i64 ah, .int .i64 ai, .slice ay ab.length ap, .slice ax ae.length au, .slice aq ag.length ar, .slice av af.length aw]) (t := 29) ?hr ?_; (case hd => rfl); (case hg => rfl); (case hr => first | (go_simp; done) | (go_simp; rfl)); intro ad hg qu hbox hb; have aa := zA (hbox); have ce := zA ((by rw [hg]; exact (zF (zz0y HB)) : w.heap.size ≤ ad)); have ac := zA ((by rw [hg]; exact (zF (zz0y HB)) : w.heap.size ≤ ad)); replace HB := zA (zG (zz0y HB) hb); clear hb hbox hg) | ((with_reducible refine gate_dst (N := 7) rfl ?_); refine box_event ?hg (N := 7) ?hd (cs := #[.int .i64 bQ, .slice cH bp.length cI]) (t := 52) ?hr ?_; (case hd => rfl); (case hg => rfl); (case hr => first | (go_simp; done) | (go_simp; rfl)); intro an hg rz hbox hb; have aj := zA (hbox); have ex := zA ((by rw [hg]; exact (zF (zz0p HB ac)) : w.heap.size ≤ an)); have aA := zA ((by rw [hg]; exact (zF (zz0p HB ac)) : w.heap.size ≤ an)); replace HB := zA (zG (zz0p HB ac) hb); have bn := zA ((by rw [hg]; exact Nat.ne_of_lt (blk_lt (g := ad) (o := .cells #[.int .i64 ah, .int .i64 ai, .slice ay ab.length ap, .slice ax ae.length au, .slice aq ag.length ar, .slice av af.length aw] 29 (0, 0)) (zz10 aa)) : ad ≠ an)); have bo := zA ((by rw [hg]; exact Nat.ne_of_gt (blk_lt (g := ad) (o := .cells #[.int .i64 ah, .int .i64 ai, .slice ay ab.length ap, .slice ax ae.length au, .slice aq ag.length ar, .slice av af.length aw] 29 (0, 0)) (zz10 aa)) : an ≠ ad)); replace aa := zA (zMp aa.out hb); clear hb hbox hg; have oU := bo.out; have oV := bn.out; obtain ⟨iY, iZ⟩ := zk2 aj.out; have lk := zL aj.out 1) | (go_at_call 76; (with_reducible refine (spec_l7No.calls k bQ a4 a5 aY _ rj.out).mono ?_); rintro e w' ⟨rfl, ⟨nd, rfl⟩⟩; (try first | exact ⟨rfl, _, World.drewN_drewN _ _ _⟩ | exact ⟨rfl, _, Eq.trans (World.drewN_drewN _ _ _) (congrArg (World.drewN _) (Nat.add_assoc _ _ _))⟩); have b9 : 0 ≤ (aY : Int) := of_decide_eq_true zz1i; have ca : aY < (bp.length : Int) := of_decide_eq_true zz1i; obtain ⟨dN, ey, ez, dA, aD, bs, bt⟩ := at_L1 eB.out aY b9 ca; cases dA; replace aD := (HB.out.cell (World.block_lt_of_cell? w _ aD)).trans aD; have bW := zA bt; have cB := zA bs; clear bt bs; replace b9 := eq_true b9; replace ca := eq_true ca) | (go_at_call 63; (with_reducible refine (spec_l1Has.calls k _ _ (rd_L1 bp aY) a3 cL _ ?ak ?al rk.out).mono ?_); (case ak => repeat (first | exact (zS bW.out (zz0j HB ac aA)) | refine zP ?_ _ | refine zQ ?_ _ | refine zR ?_)); (case al => exact cB.out); rintro e w' ⟨rfl, ⟨nd, rfl⟩⟩; (try first | exact ⟨rfl, _, World.drewN_drewN _ _ _⟩ | exact ⟨rfl, _, Eq.trans (World.drewN_drewN _ _ _) (congrArg (World.drewN _) (Nat.add_assoc _ _ _))⟩))); try go_wp2_with (first | ((with_reducible refine gate_dst (N := 6) rfl ?_); refine box_event ?hg (N := 6) ?hd (cs := #[.int .i64 ah, .int .i64 ai, .slice ay ab.length ap, .slice ax ae.length au, .slice aq ag.length ar, .slice av af.length aw]) (t := 29) ?hr ?_; (case hd => rfl); (case hg => rfl); (case hr => first | (go_simp; done) | (go_simp; rfl)); intro ad hg qu hbox hb; have aa := zA (hbox); have ce := zA ((by rw [hg]; exact (zF (zz0y HB)) : w.heap.size ≤ ad)); have ac := zA ((by rw [hg]; exact (zF (zz0y HB)) : w.heap.size ≤ ad)); replace HB := zA (zG (zz0y HB) hb); clear hb hbox hg) | ((with_reducible refine gate_dst (N := 7) rfl ?_); refine box_event ?hg (N := 7) ?hd (cs := #[.int .i64 bQ, .slice cH bp.length cI]) (t := 52) ?hr ?_; (case hd => rfl); (case hg => rfl); (case hr => first | (go_simp; done) | (go_simp; rfl)); intro an hg rz hbox hb; have aj := zA (hbox); have ex := zA ((by rw [hg]; exact (zF (zz0p HB ac)) : w.heap.size ≤ an)); have aA := zA ((by rw [hg]; exact (zF (zz0p HB ac)) : w.heap.size ≤ an)); replace HB := zA (zG (zz0p HB ac) hb); have bn := zA ((by rw [hg]; exact Nat.ne_of_lt (blk_lt (g := ad) (o := .cells #[.int .i64 ah, .int .i64 ai, .slice ay ab.length ap, .slice ax ae.length au, .slice aq ag.length ar, .slice av af.length aw] 29 (0, 0)) (zz10 aa)) : ad ≠ an)); have bo := zA ((by rw [hg]; exact Nat.ne_of_gt (blk_lt (g := ad) (o := .cells #[.int .i64 ah, .int .i64 ai, .slice ay ab.length ap, .slice ax ae.length au, .slice aq ag.length ar, .slice av af.length aw] 29 (0, 0)) (zz10 aa)) : an ≠ ad)); replace aa := zA (zMp aa.out hb); clear hb hbox hg; have oU := bo.out; have oV := bn.out; obtain ⟨iY, iZ⟩ := zk2 aj.out; have lk := zL aj.out 1) | (go_at_call 76; (with_reducible refine (spec_l7No.calls k bQ a4 a5 aY _ rj.out).mono ?_); rintro e w' ⟨rfl, ⟨nd, rfl⟩⟩; (try first | exact ⟨rfl, _, World.drewN_drewN _ _ _⟩ | exact ⟨rfl, _, Eq.trans (World.drewN_drewN _ _ _) (congrArg (World.drewN _) (Nat.add_assoc _ _ _))⟩); have b9 : 0 ≤ (aY : Int) := of_decide_eq_true zz1i; have ca : aY < (bp.length : Int) := of_decide_eq_true zz1i; obtain ⟨dN, ey, ez, dA, aD, bs, bt⟩ := at_L1 eB.out aY b9 ca; cases dA; replace aD := (HB.out.cell (World.block_lt_of_cell? w _ aD)).trans aD; have bW := zA bt; have cB := zA bs; clear bt bs; replace b9 := eq_true b9; replace ca := eq_true ca) | (go_at_call 63; (with_reducible refine (spec_l1Has.calls k _ _ (rd_L1 bp aY) a3 cL _ ?ak ?al rk.out).mono ?_); (case ak => repeat (first | exact (zS bW.out (zz0j HB ac aA)) | refine zP ?_ _ | refine zQ ?_ _ | refine zR ?_)); (case al => exact cB.out); rintro e w' ⟨rfl, ⟨nd, rfl⟩⟩; (try first | exact ⟨rfl, _, World.drewN_drewN _ _ _⟩ | exact ⟨rfl, _, Eq.trans (World.drewN_drewN _ _ _) (congrArg (World.drewN _) (Nat.add_assoc _ _ _))⟩))))); go_ret; exact ⟨zz0z, zz0j HB ac aA⟩
end Go.Proofs.Ytkocahlifffgjaa.P
