/- A part of the proofs of some laws of this seat (words of the print and texts of this session, without what these laws do not use). -/
import Derived.Test.YtkocahlifffgjaaTFnExactAcceptsp1
import Derived.Test.YtkocahlifffgjaaProg
import Derived.Shelf.SlLaysE
import Derived.Shelf.SlLaysF
import Derived.Shelf.SlLaysM
import Derived.Test.YtkocahlifffgjaaTFnExactAcceptsp0
import Derived.Shelf.SortM.Plain
import Derived.Shelf.SortM.SortNone
import Derived.Sort.OwnSortedInts
import Derived.Shelf.SlicesE.Compact
import Derived.Lib.SliceRun
import Derived.Shelf.SlSortCmp.NoneTotal
namespace Go.Proofs.Ytkocahlifffgjaa.P
open Go.RowKit Go.Proofs.YtkocahlifffgjaaW.PrintWords Go.Proofs.YtkocahlifffgjaaW.PrintLast Go.Proofs.YtkocahlifffgjaaW.PrintMore
attribute [local go_sem] max2_int min2_int max_two min_two max_three min_three max_four min_four
set_option linter.unusedVariables false
set_option linter.unusedSimpArgs false
def spec_l5Less.l0 : Nat → List Int → List Int → Int → Int → Option (Bool)
 | 0, _, _, _, _ => none
 | k + 1, x0, x1, x7, x8 => if x8 < x7 then (if 0 ≤ x8 then (if x8 < (x0.length : Int) then (if x8 < (x1.length : Int) then (if (rd x0 x8) = (rd x1 x8) then (spec_l5Less.l0 k x0 x1 x7 (wrap64 (x8 + 1))) else (some (decide ((rd x0 x8) < (rd x1 x8))))) else (none)) else (none)) else (none)) else (some false)
def spec_l5Less.f (k : Nat) (l0 : List Int) (l1 : List Int) : Option (Bool) := spec_l5Less.l0 k l0 l1 (l0.length : Int) 0
set_option maxHeartbeats 8000000 in
set_option maxRecDepth 100000 in
theorem spec_l5Less.calls (k : Nat) (A0 : Option Addr) (c0 : Nat) (l0 : List Int) (A1 : Option Addr) (c1 : Nat) (l1 : List Int) (r : Bool) (w : World) (dK : Kd.C (Kd.int .i64) w A0 l0.length l0) (dL : l0.length ≤ c0) (et : Kd.C (Kd.int .i64) w A1 l1.length l1) (eu : l1.length ≤ c1) (h : spec_l5Less.f k l0 l1 = some r) :
 Calls Try.prog 112 #[.slice A0 l0.length c0, .slice A1 l1.length c1] w fun e w' => e = .returned (.bool r) ∧ Drawn0 w w' := by
 have dx := zA dK; have iG := zA dL; clear dK dL; have eO := zA et; have hl := zA eu; clear et eu; have H : (spec_l5Less.l0 k l0 l1 (l0.length : Int) 0) = some r := h; clear h; have H' := zA H; clear H; go_enter Try.func112, Try.ntmps112; go_wp2; (repeat (go_quiet (fail); try go_wp2)); go_loopg [8] k (fun kq v8 w' => ∃ (b2 : Int), v8 = .int .i64 b2 ∧ Aside0 (spec_l5Less.l0 kq l0 l1 (l0.length : Int) b2 = some r) ∧ Aside0 (kq ≤ k) ∧ Drawn0 w w')
 case atStart => exact ⟨(0), zz16, H', ⟨Nat.le_refl _⟩, zz14⟩
 case round =>
  clear H'; (try clear c1); (try clear p2); obtain ⟨b2, rfl, HA, bM, ⟨m1, rfl⟩⟩ := hrel; cases gk with
  | zero => exact absurd HA.out (by simp [spec_l5Less.l0])
  | succ k1 =>
   have H := HA.out; clear HA; simp only [spec_l5Less.l0] at H; by_cases c3 : b2 < (l0.length : Int)
   · rw [if_pos c3] at H; have cS := decide_eq_true c3; clear c3; replace H := zIn H; obtain ⟨c4, H⟩ := H; have dp : decide (0 ≤ b2) = true := decide_eq_true c4; clear c4; replace H := zIn H; obtain ⟨c5, H⟩ := H; have e5 : decide (b2 < (l0.length : Int)) = true := decide_eq_true c5; clear c5; replace H := zIn H; obtain ⟨c6, H⟩ := H; have dq : decide (b2 < (l1.length : Int)) = true := decide_eq_true c6; clear c6; by_cases c7 : (rd l0 b2) = (rd l1 b2)
     · rw [if_pos c7] at H; have dy : ((rd l0 b2) == (rd l1 b2)) = true := beq_iff_eq.mpr c7; have kg : ((rd l0 b2) != (rd l1 b2)) = false := bne_eq_false_iff_eq.mpr c7; clear c7; have H' := zA H; clear H; have aU : 0 ≤ (b2 : Int) := of_decide_eq_true zz1i; have aV : b2 < (l0.length : Int) := of_decide_eq_true zz1i; obtain ⟨bi, bV, bc⟩ := Kd.at_int dx.out b2 aU aV; cases bV; replace aU := eq_true aU; replace aV := eq_true aV; have b0 : 0 ≤ (b2 : Int) := of_decide_eq_true zz1i; have b1 : b2 < (l1.length : Int) := of_decide_eq_true zz1i; obtain ⟨dz, dh, b5⟩ := Kd.at_int eO.out b2 b0 b1; cases dh; replace b0 := eq_true b0; replace b1 := eq_true b1; go_wp2; repeat (go_quiet (fail); try go_wp2)
       go_roundg k1
       case measure => have := bM.out; omega
       case rel => exact ⟨(wrap64 (b2 + 1)), zz16, H', ⟨zz1e bM⟩, zz14⟩
     · rw [if_neg c7] at H; have dy : ((rd l0 b2) == (rd l1 b2)) = false := beq_eq_false_iff_ne.mpr c7; have kg : ((rd l0 b2) != (rd l1 b2)) = true := bne_iff_ne.mpr c7; obtain rfl := Option.some.inj H; have aU : 0 ≤ (b2 : Int) := of_decide_eq_true zz1i; have aV : b2 < (l0.length : Int) := of_decide_eq_true zz1i; obtain ⟨bi, bV, bc⟩ := Kd.at_int dx.out b2 aU aV; cases bV; replace aU := eq_true aU; replace aV := eq_true aV; have b0 : 0 ≤ (b2 : Int) := of_decide_eq_true zz1i; have b1 : b2 < (l1.length : Int) := of_decide_eq_true zz1i; obtain ⟨dz, dh, b5⟩ := Kd.at_int eO.out b2 b0 b1; cases dh; replace b0 := eq_true b0; replace b1 := eq_true b1; have cm : 0 ≤ (b2 : Int) := of_decide_eq_true zz1i; have cn : b2 < (l0.length : Int) := of_decide_eq_true zz1i; obtain ⟨du, ew, bd⟩ := Kd.at_int dx.out b2 cm cn; obtain rfl : bi = du := (by injection ew)
       replace cm := eq_true cm; replace cn := eq_true cn; have dr : 0 ≤ (b2 : Int) := of_decide_eq_true zz1i; have dt : b2 < (l1.length : Int) := of_decide_eq_true zz1i; obtain ⟨gZ, f9, bR⟩ := Kd.at_int eO.out b2 dr dt; obtain rfl : dz = gZ := (by injection f9)
       replace dr := eq_true dr; replace dt := eq_true dt; go_wp2; (repeat (go_quiet (fail); try go_wp2)); go_ret; exact ⟨zz16, zz14⟩
   · rw [if_neg c3] at H; have cS := decide_eq_false c3; clear c3; obtain rfl := Option.some.inj H; go_wp2; (repeat (go_quiet (fail); try go_wp2)); go_ret; exact ⟨zz16, zz14⟩
def spec_l5Symbol.f (ah : Int) (ai : Int) (ab : List (List Int)) (ae : List (List Int)) (ag : List Int) (af : List (List Int)) (a1 : Int) : Option (Bool) := (spec_l1In.f a1 (wrap64 (-ai)) (wrap64 (ah - 1))).bind fun aG => (some aG)
set_option maxHeartbeats 8000000 in
set_option maxRecDepth 100000 in
theorem spec_l5Symbol.calls (ah : Int) (ai : Int) (ay : Option Addr) (ap : Nat) (ab : List (List Int)) (ax : Option Addr) (au : Nat) (ae : List (List Int)) (aq : Option Addr) (ar : Nat) (ag : List Int) (av : Option Addr) (aw : Nat) (af : List (List Int)) (a1 : Int) (r : Bool) (w : World) (bw : Kd.C (Kd.slice 3 (Kd.int .i64)) w ay ab.length ab) (bx : ab.length ≤ ap) (bz : Kd.C (Kd.slice 3 (Kd.int .i64)) w ax ae.length ae) (bA : ae.length ≤ au) (bB : Kd.C (Kd.int .i64) w aq ag.length ag) (bC : ag.length ≤ ar) (bD : Kd.C (Kd.slice 3 (Kd.int .i64)) w av af.length af) (bE : af.length ≤ aw) (h : spec_l5Symbol.f ah ai ab ae ag af a1 = some r) :
 Calls Try.prog 55 #[.agg #[.int .i64 ah, .int .i64 ai, .slice ay ab.length ap, .slice ax ae.length au, .slice aq ag.length ar, .slice av af.length aw], .int .i64 a1] w fun e w' => e = .returned (.bool r) ∧ Below w.heap.size w w' := by
 have hu29 := Try.underlying29; have bm := zA bw; have bF := zA bx; clear bw bx; have bq := zA bz; have bG := zA bA; clear bz bA; have bH := zA bB; have bI := zA bC; clear bB bC; have bJ := zA bD; have bN := zA bE; clear bD bE; have HB := zA (Below.refl w.heap.size w); have H : ((spec_l1In.f a1 (wrap64 (-ai)) (wrap64 (ah - 1))).bind fun aG => (some aG)) = some r := h; clear h; replace H := Option.bind_eq_some_iff.mp H; obtain ⟨aG, g0, H⟩ := H; have A3 := zA g0; clear g0; obtain rfl := Option.some.inj H; go_enter Try.func55, Try.ntmps55; go_wp2_with (first | ((with_reducible refine gate_dst (N := 2) rfl ?_); refine box_event ?hg (N := 2) ?hd (cs := #[.int .i64 ah, .int .i64 ai, .slice ay ab.length ap, .slice ax ae.length au, .slice aq ag.length ar, .slice av af.length aw]) (t := 29) ?hr ?_; (case hd => rfl); (case hg => rfl); (case hr => first | (go_simp; done) | (go_simp; rfl)); intro ad hg w4 hbox hb; have aa := zA (hbox); have ce := zA ((by rw [hg]; exact (zF (zz0y HB)) : w.heap.size ≤ ad)); have ac := zA ((by rw [hg]; exact (zF (zz0y HB)) : w.heap.size ≤ ad)); replace HB := zA (zG (zz0y HB) hb); clear hb hbox hg; obtain ⟨hcz5_0, hcz5_1, hcz5_2, hcz5_3, hcz5_4, hcz5_5⟩ := zk6 aa.out; have hfz5_5 := zL aa.out 5) | ((with_reducible refine gate_callee (f := 81) rfl ?_); refine goesL_ (some 12) rfl rfl Try.func81 zz1j rfl #[.int .i64 a1, .int .i64 (wrap64 (-ai)), .int .i64 (wrap64 (ah - 1))] rfl zz0i ?_; (with_reducible refine (spec_l1In.calls a1 (wrap64 (-ai)) (wrap64 (ah - 1)) aG _ A3.out).mono ?_); rintro e w' ⟨rfl, ⟨nd, rfl⟩⟩; refine ⟨_, rfl, ?_⟩)); go_ret; exact ⟨zz0z, zz0p HB ac⟩
end Go.Proofs.Ytkocahlifffgjaa.P
namespace Go.Proofs.Ytkocahlifffgjaa.P
open Go.RowKit Go.Proofs.YtkocahlifffgjaaW.PrintWords Go.Proofs.YtkocahlifffgjaaW.PrintLast Go.Proofs.YtkocahlifffgjaaW.PrintMore
set_option linter.unusedVariables false
set_option linter.unusedSimpArgs false
theorem l1In_eq (a b c : Int) : spec_l1In.f a b c = some (decide (b ≤ a ∧ a ≤ c)) := by
 unfold spec_l1In.f; by_cases h : a ≥ b
 · rw [if_pos h]; congr 2; simp; omega
 · rw [if_neg h]; simp; omega
theorem l5Symbol_eq (a0 a1 : Int) (l2 l3 : List (List Int)) (l4 : List Int) (l5 : List (List Int)) (x : Int) : spec_l5Symbol.f a0 a1 l2 l3 l4 l5 x = some (symB a0 a1 x) := by
 unfold spec_l5Symbol.f symB; rw [l1In_eq]; rfl
theorem l5Less_loop (a b : List Int) (hl : a.length = b.length) (hb : a.length ≤ 9223372036854775807) (d : Nat) : ∀ (k i : Nat), i ≤ a.length → a.length - i = d → d < k →
 spec_l5Less.l0 k a b a.length i = some (decide (cmpL (a.drop i) (b.drop i) < 0)) := by
 induction d with
 | zero =>
  intro k i h1 hd hk; obtain ⟨k, rfl⟩ : ∃ m, k = m + 1 := ⟨k - 1, zz1n⟩
  simp only [spec_l5Less.l0]; rw [if_neg zz1n, List.drop_of_length_le (show a.length ≤ i by omega), List.drop_of_length_le (show b.length ≤ i by omega)]; rfl
 | succ d ih =>
  intro k i h1 hd hk; obtain ⟨k, rfl⟩ : ∃ m, k = m + 1 := ⟨k - 1, zz1n⟩
  simp only [spec_l5Less.l0]; have ea : a.drop i = rd a i :: a.drop (i + 1) := getD_drop a i 0 zz1n; have eb : b.drop i = rd b i :: b.drop (i + 1) := getD_drop b i 0 zz1n; rw [if_pos zz1n, if_pos zz1n, if_pos zz1n, if_pos zz1n, ea, eb]; by_cases h3 : rd a i = rd b i
  · rw [if_pos h3, show wrap64 ((i : Int) + 1) = ((i + 1 : Nat) : Int) by unfold wrap64; omega, ih k (i + 1) zz1n zz1n zz1n]; simp [cmpL, h3]
  · rw [if_neg h3]; by_cases h4 : rd a i < rd b i
    · simp [cmpL, h4]
    · simp [cmpL, h4, show rd b i < rd a i by omega]
theorem l5Less_eq (a b : List Int) (hl : a.length = b.length) (hb : a.length ≤ 9223372036854775807) (k : Nat) (hk : a.length < k) : spec_l5Less.f k a b = some (decide (cmpL a b < 0)) := by
 unfold spec_l5Less.f; have := l5Less_loop a b hl hb a.length k 0 zz1n zz1n hk; simpa using this
def spec_l5Rising.f (a0_0 a0_1 : Int) (l0_2 l0_3 : List (List Int)) (l0_4 : List Int) (l0_5 l1 : List (List Int)) (a2 : Int) : Option Bool := if 1 ≤ a2 then some (listsF a0_0 a0_1 a2 none l1) else none
set_option maxHeartbeats 4000000 in
set_option maxRecDepth 100000 in
theorem spec_l5Rising.calls (a0_0 a0_1 : Int) (A0_2 : Option Addr) (c0_2 : Nat) (l0_2 : List (List Int)) (A0_3 : Option Addr) (c0_3 : Nat) (l0_3 : List (List Int)) (A0_4 : Option Addr) (c0_4 : Nat) (l0_4 : List Int) (A0_5 : Option Addr) (c0_5 : Nat) (l0_5 : List (List Int)) (A1 : Option Addr) (c1 : Nat) (l1 : List (List Int)) (a2 : Int) (r : Bool) (w : World)
 (hr0_2 : Kd.C (Kd.slice 3 (Kd.int .i64)) w A0_2 l0_2.length l0_2) (hc0_2 : l0_2.length ≤ c0_2) (hr0_3 : Kd.C (Kd.slice 3 (Kd.int .i64)) w A0_3 l0_3.length l0_3) (hc0_3 : l0_3.length ≤ c0_3) (hr0_4 : Kd.C (Kd.int .i64) w A0_4 l0_4.length l0_4) (hc0_4 : l0_4.length ≤ c0_4) (hr0_5 : Kd.C (Kd.slice 3 (Kd.int .i64)) w A0_5 l0_5.length l0_5) (hc0_5 : l0_5.length ≤ c0_5) (hr1 : Kd.C (Kd.slice 3 (Kd.int .i64)) w A1 l1.length l1) (hc1 : l1.length ≤ c1)
 (h : spec_l5Rising.f a0_0 a0_1 l0_2 l0_3 l0_4 l0_5 l1 a2 = some r) :
 Calls Try.prog 88 #[.agg #[.int .i64 a0_0, .int .i64 a0_1, .slice A0_2 l0_2.length c0_2, .slice A0_3 l0_3.length c0_3, .slice A0_4 l0_4.length c0_4, .slice A0_5 l0_5.length c0_5], .slice A1 l1.length c1, .int .i64 a2] w fun e w' => e = .returned (.bool r) ∧ Below w.heap.size w w' := by
 have hu := Try.underlying29; have ha2 : 1 ≤ a2 := by
  by_cases h2 : 1 ≤ a2
  · exact h2
  · unfold spec_l5Rising.f at h; rw [if_neg h2] at h; cases h
 unfold spec_l5Rising.f at h; rw [if_pos ha2] at h; obtain rfl := Option.some.inj h; clear h; have SY := zA fun (x : Int) (W : World) (hW : Below w.heap.size w W) => spec_l5Symbol.calls a0_0 a0_1 A0_2 c0_2 l0_2 A0_3 c0_3 l0_3 A0_4 c0_4 l0_4 A0_5 c0_5 l0_5 x (symB a0_0 a0_1 x) W (zS hr0_2 hW) hc0_2 (zS hr0_3 hW) hc0_3 (zS hr0_4 hW) hc0_4 (zS hr0_5 hW) hc0_5 (l5Symbol_eq a0_0 a0_1 l0_2 l0_3 l0_4 l0_5 x)
 clear hr0_2 hr0_3 hr0_4 hr0_5; have hml : l1.length ≤ 9223372036854775807 := hr1.2.1; have HRL := zA hr1; clear hr1; have HB := zA (Below.refl w.heap.size w); have HA2 := zA ha2; go_enter Try.func88, Try.ntmps88; go_wp2_with (first | ((with_reducible refine gate_dst (N := 3) rfl ?_); refine box_event ?hg (N := 3) ?hd (cs := #[.int .i64 a0_0, .int .i64 a0_1, .slice A0_2 l0_2.length c0_2, .slice A0_3 l0_3.length c0_3, .slice A0_4 l0_4.length c0_4, .slice A0_5 l0_5.length c0_5]) (t := 29) ?hr ?_; (case hd => rfl); (case hg => rfl); (case hr => first | (go_simp; done) | (go_simp; rfl)); intro gb hg w1 hbox hb; have n0_ := zA (zG HB.out hb); have n1_ := zA hbox; clear HB; have HB := n0_; have BK := n1_; clear n0_ n1_ hb hbox hg) | go_in); go_loopg [13] l1.length (fun gg s13 wr => ∃ kk : Nat, kk ≤ l1.length ∧ l1.length - kk ≤ gg ∧ s13 = .int .i64 kk ∧ Aside0 (listsF a0_0 a0_1 a2 none l1 = listsF a0_0 a0_1 a2 (prevL l1 kk) (l1.drop kk)) ∧ Aside0 (∀ z, prevL l1 kk = some z → (z.length : Int) = a2) ∧ Aside0 (wr.heap[gb]? = some (.cells #[.int .i64 a0_0, .int .i64 a0_1, .slice A0_2 l0_2.length c0_2, .slice A0_3 l0_3.length c0_3, .slice A0_4 l0_4.length c0_4, .slice A0_5 l0_5.length c0_5] 29 (0, 0))) ∧ Aside0 (Below w.heap.size w wr))
 case atStart => exact ⟨0, Nat.zero_le _, zz1n, rfl, ⟨rfl⟩, ⟨fun z h => by cases h⟩, BK, HB⟩
 case round =>
  clear BK HB; obtain ⟨kk, hkk, hg, rfl, R, LN, BK, HB⟩ := hrel; by_cases hlt : kk < l1.length
  · have hd : decide (kk < l1.length) = true := decide_eq_true hlt; obtain ⟨ad, A3, c3, e, hx0, hl3, hi3⟩ := at_L1 HRL.out (kk : Int) zz1n zz1n; subst e; have hx1 : wr.cell? (ad.add kk) = some (.slice A3 (rd_L1 l1 kk).length c3) := (HB.out.cell (World.block_lt_of_cell? w _ zz1f)).trans zz1f; have OKD := zA (show listsF a0_0 a0_1 a2 (prevL l1 kk) (l1.drop kk) = (rowOk a0_0 a0_1 a2 (rd_L1 l1 kk) && ((match prevL l1 kk with | none => true | some z => decide (cmpL z (rd_L1 l1 kk) < 0)) && listsF a0_0 a0_1 a2 (prevL l1 (kk + 1)) (l1.drop (kk + 1)))) by rw [getD_drop l1 kk [] hlt]; cases kk <;> rfl); have HI := zA (zS hi3 HB.out); have HL := zA hl3; have hmy : (rd_L1 l1 kk).length ≤ 9223372036854775807 := hi3.2.1; have L := zA hlt; have PRV := zA (show ∀ m, kk = m + 1 → prevL l1 kk = some (rd_L1 l1 m) from fun m hm => by rw [hm]; rfl); have PRN := zA (show prevL l1 (kk + 1) = some (rd_L1 l1 kk) from rfl); clear hx0 hi3 hl3; generalize rd_L1 l1 kk = y at hx1 OKD HI HL hmy PRN
    go_upto_region 4 with fail
    have q0 := Later.cell (w := wr) (a := ⟨gb, 0, none⟩) (v := .int .i64 a0_0) ((zK BK.out 0).trans rfl); have q1 := Later.cell (w := wr) (a := ⟨gb, 1, none⟩) (v := .int .i64 a0_1) ((zK BK.out 1).trans rfl); clear hx1; by_cases h1 : (y.length : Int) = a2
    · have e1 : ((y.length : Int) != a2) = false := by rw [h1]; simp
      have hpos : 0 < y.length := by have := HA2.out; omega
      obtain ⟨ay, e, hy0⟩ := Kd.at_int HI.out 0 zz1n zz1n; subst e; rw [show ((0 : Int)).toNat = 0 from rfl, Addr.add_zero'] at hy0; have q2 := Later.cell hy0; have hlp : (0 < y.length) = True := eq_true hpos; clear hy0; have H1x := zA h1; clear h1; by_cases h2 : 0 ≤ rd y 0 ∧ rd y 0 ≤ wrap64 (a0_0 - 1)
      · have J1 := zA (show spec_l1In.f (rd y 0) 0 (wrap64 (a0_0 - 1)) = some true by rw [l1In_eq, decide_eq_true h2]); have H2x := zA h2; clear h2; obtain ⟨i0, hi0, _, hsz0, _⟩ := info_parts info3; have hcut0 := cut_from (P := Try.prog) 23 3 .i64 Try.underlying23 hi0 1 hsz0 (some ay) y.length c3 1 zz1n zz1n; have HI90 := Kd.C_drop (m := 1) HI.out zz1n HL.out; obtain ⟨A9, hA9⟩ : ∃ A9 : Option Addr, A9 = (if c3 = 1 then some ay else (some ay).map (·.add (1 * 1))) := ⟨_, rfl⟩
        obtain ⟨t, ht⟩ : ∃ t, t = y.drop 1 := ⟨_, rfl⟩
        have htl : t.length = y.length - 1 := by rw [ht, List.length_drop]
        have hcut : ∀ W : World, (Instr.slice 23 (.slice (some ay) y.length c3) (some (.int .i64 1)) none none).run Try.prog W = .ok (.slice A9 t.length (c3 - 1)) W := fun W => by rw [hcut0 W, hA9, htl]; rfl
        have HI9w := zA (show Kd.C (Kd.int .i64) wr A9 t.length t by rw [hA9, ht]; exact HI90); have hmt : t.length ≤ 9223372036854775807 := by omega
        have NOS := zA (show ∀ i : Nat, i < t.length → symB a0_0 a0_1 (t.getD i 0) = false → rowOk a0_0 a0_1 a2 y = false from fun i hi hs => by
         unfold rowOk; rw [← ht]; have : (t.any fun z => !symB a0_0 a0_1 z) = true := List.any_eq_true.2 ⟨t.getD i 0, by rw [List.getD_eq_getElem?_getD, List.getElem?_eq_getElem hi]; exact List.getElem_mem hi, by rw [hs]; rfl⟩; rw [this]; simp)
        have YESS := zA (show (∀ i : Nat, i < t.length → symB a0_0 a0_1 (t.getD i 0) = true) → rowOk a0_0 a0_1 a2 y = true from fun hs => by
         unfold rowOk; rw [← ht, decide_eq_true H1x.out, decide_eq_true H2x.out]; have : (t.any fun z => !symB a0_0 a0_1 z) = false := by
          rw [List.any_eq_false]; intro z hz; obtain ⟨i, hi, rfl⟩ := List.getElem_of_mem hz; have := hs i hi; rw [List.getD_eq_getElem?_getD, List.getElem?_eq_getElem hi] at this; simpa using this
         rw [this]; rfl)
        clear hcut0 HI90 hA9 hi0 hsz0 ht htl; cases kk with
        | zero =>
         refine wp_region_later zz1j zz1j ?_; (repeat (go_big_quiet_step (first | (go_at_call 81; with_reducible exact Later.callD (spec_l1In.calls (rd y 0) 0 (wrap64 (a0_0 - 1)) true _ J1.out))))); refine wpQuiet_nil ?_; intro w4_ hw4; obtain ⟨⟨w4, hb4⟩, hw4⟩ := hw4; subst hw4; (try dsimp only); have B4 := zA hb4; clear hb4; have n0_ := zA (zM BK.out B4.out); have n1_ := zA (zG HB.out B4.out); have HI9 := zA (zS HI9w.out B4.out); clear BK HB B4 q0 q1 q2 HI9w; have BK := n0_; have HB := n1_; clear n0_ n1_ hd; go_wp2; go_loopg [49] t.length (fun gg s49 wr => ∃ jj : Nat, jj ≤ t.length ∧ t.length - jj ≤ gg ∧ s49 = .int .i64 jj ∧ Aside0 (∀ i, i < jj → symB a0_0 a0_1 (t.getD i 0) = true) ∧ Aside0 (wr.heap[gb]? = some (.cells #[.int .i64 a0_0, .int .i64 a0_1, .slice A0_2 l0_2.length c0_2, .slice A0_3 l0_3.length c0_3, .slice A0_4 l0_4.length c0_4, .slice A0_5 l0_5.length c0_5] 29 (0, 0))) ∧ Aside0 (Kd.C (Kd.int .i64) wr A9 t.length t) ∧ Aside0 (Below w.heap.size w wr))
         case atStart => exact ⟨0, Nat.zero_le _, zz1n, rfl, ⟨fun i hi => absurd hi (Nat.not_lt_zero _)⟩, BK, HI9, HB⟩
         case round =>
          clear BK HB HI9; obtain ⟨jj, hjj, hg2, rfl, S, BK, HI9, HB⟩ := hrel; by_cases hlt2 : jj < t.length
          · have hd2 : decide (jj < t.length) = true := decide_eq_true hlt2; obtain ⟨ay9, e, hy9⟩ := Kd.at_int HI9.out (jj : Int) zz1n zz1n; subst e; have hy8 : wr.cell? (ay9.add jj) = some (.int .i64 (rd t jj)) := by simpa using hy9
            have hx0 : wr.cell? ⟨gb, 0, none⟩ = some (.int .i64 a0_0) := (zK BK.out 0).trans rfl; have hx1 : wr.cell? ⟨gb, 1, none⟩ = some (.int .i64 a0_1) := (zK BK.out 1).trans rfl; have hx2 : wr.cell? ⟨gb, 2, none⟩ = some (.slice A0_2 l0_2.length c0_2) := (zK BK.out 2).trans rfl; have hx3 : wr.cell? ⟨gb, 3, none⟩ = some (.slice A0_3 l0_3.length c0_3) := (zK BK.out 3).trans rfl; have hx4 : wr.cell? ⟨gb, 4, none⟩ = some (.slice A0_4 l0_4.length c0_4) := (zK BK.out 4).trans rfl; have hx5 : wr.cell? ⟨gb, 5, none⟩ = some (.slice A0_5 l0_5.length c0_5) := (zK BK.out 5).trans rfl; have L2 := zA hlt2; clear hy9; have CS := SY.out (rd t jj) wr HB.out; have SE := zA (show t.getD jj 0 = rd t jj from rfl); generalize rd t jj = x at hy8 CS SE; cases hs : symB a0_0 a0_1 x with
            | true =>
             rw [hs] at CS; have SX := zA hs; clear hs; go_wp2_with fail; refine CS.mono ?_; rintro e w' ⟨rfl, hb'⟩; clear CS hd2; go_wp2
             go_roundg (t.length - (jj + 1))
             case measure => have := L2.out; omega
             case rel => exact ⟨jj + 1, zz1e L2, zz1n, zz1l, ⟨fun (i : Nat) (hi : i < jj + 1) => if ej : i = jj then (by subst ej; rw [SE.out]; exact SX.out) else S.out i (by have := hi; have := ej; omega)⟩, ⟨zM BK.out hb'⟩, ⟨zS HI9.out hb'⟩, ⟨zG HB.out hb'⟩⟩
            | false =>
             rw [hs] at CS; have J4 := zA (show listsF a0_0 a0_1 a2 none l1 = false by rw [R.out, OKD.out, NOS.out jj L2.out (by rw [SE.out]; exact hs), Bool.false_and]); clear hs; go_wp2_with fail; refine CS.mono ?_; rintro e w' ⟨rfl, hb'⟩; clear CS hd2 hlt2; go_wp2; go_ret; exact ⟨zz1g J4, zG HB.out hb'⟩
          · have hd2 : decide (jj < t.length) = false := decide_eq_false hlt2; have RW := zA (YESS.out (fun i hi => S.out i zz1n)); have J5 := zA (show listsF a0_0 a0_1 a2 none l1 = listsF a0_0 a0_1 a2 (prevL l1 (0 + 1)) (l1.drop (0 + 1)) by rw [R.out, OKD.out, RW.out]; rfl); clear hlt2; go_wp2
            go_roundg (l1.length - (0 + 1))
            case measure => have := L.out; omega
            case rel => exact ⟨0 + 1, zz1e L, zz1n, zz1l, J5, ⟨fun z_ hz_ => by rw [PRN.out] at hz_; cases hz_; exact H1x.out⟩, BK, HB⟩
        | succ m =>
         obtain ⟨ad2, A8, c8, e, hz0, hl8, hi8⟩ := at_L1 HRL.out (m : Int) zz1n zz1n; cases e; have q3 := Later.cell (w := wr) (a := ad.add m) (v := .slice A8 (rd_L1 l1 m).length c8) ((HB.out.cell (World.block_lt_of_cell? w _ (by simpa using hz0))).trans (by simpa using hz0)); have HZ := zA (zS hi8 HB.out); have HZL := zA hl8; have hmz := zA hi8.2.1; have PV2 := zA (PRV.out m rfl); have LZ := zA (LN.out _ PV2.out); rw [PV2.out] at OKD; clear hz0 hl8 hi8 PRV LN; generalize rd_L1 l1 m = z at q3 HZ HZL hmz OKD PV2 LZ; have OK2 := zA (show listsF a0_0 a0_1 a2 (some z) (l1.drop (m + 1)) = (rowOk a0_0 a0_1 a2 y && (decide (cmpL z y < 0) && listsF a0_0 a0_1 a2 (prevL l1 (m + 1 + 1)) (l1.drop (m + 1 + 1)))) from OKD.out); clear OKD; have OKD := OK2; clear OK2; have J6 := zA (l5Less_eq z y (zz1b LZ H1x) hmz.out (z.length + 1) zz1n); generalize decide (cmpL z y < 0) = cz at J6 OKD; have CM := fun (W : World) (hW : Below wr.heap.size wr W) => spec_l5Less.calls (z.length + 1) A8 c8 z (some ay) c3 y cz W (zS HZ.out hW) HZL.out (zS HI.out hW) HL.out J6.out
         cases cz with
         | true =>
          refine wp_region_later zz1j zz1j ?_; (repeat (go_big_quiet_step (first | (go_at_call 81; with_reducible exact Later.callD (spec_l1In.calls (rd y 0) 0 (wrap64 (a0_0 - 1)) true _ J1.out)) | (go_at_call 112; with_reducible exact Later.callD (CM _ (Later.below _)))))); refine wpQuiet_nil ?_; intro w4_ hw4; obtain ⟨⟨w4, hb4⟩, hw4⟩ := hw4; subst hw4; (try dsimp only); have B4 := zA hb4; clear hb4; clear CM q3; have n0_ := zA (zM BK.out B4.out); have n1_ := zA (zG HB.out B4.out); have HI9 := zA (zS HI9w.out B4.out); clear BK HB B4 q0 q1 q2 HI9w; have BK := n0_; have HB := n1_; clear n0_ n1_ hd; go_wp2; go_loopg [49] t.length (fun gg s49 wr => ∃ jj : Nat, jj ≤ t.length ∧ t.length - jj ≤ gg ∧ s49 = .int .i64 jj ∧ Aside0 (∀ i, i < jj → symB a0_0 a0_1 (t.getD i 0) = true) ∧ Aside0 (wr.heap[gb]? = some (.cells #[.int .i64 a0_0, .int .i64 a0_1, .slice A0_2 l0_2.length c0_2, .slice A0_3 l0_3.length c0_3, .slice A0_4 l0_4.length c0_4, .slice A0_5 l0_5.length c0_5] 29 (0, 0))) ∧ Aside0 (Kd.C (Kd.int .i64) wr A9 t.length t) ∧ Aside0 (Below w.heap.size w wr))
          case atStart => exact ⟨0, Nat.zero_le _, zz1n, rfl, ⟨fun i hi => absurd hi (Nat.not_lt_zero _)⟩, BK, HI9, HB⟩
          case round =>
           clear BK HB HI9; obtain ⟨jj, hjj, hg2, rfl, S, BK, HI9, HB⟩ := hrel; by_cases hlt2 : jj < t.length
           · have hd2 : decide (jj < t.length) = true := decide_eq_true hlt2; obtain ⟨ay9, e, hy9⟩ := Kd.at_int HI9.out (jj : Int) zz1n zz1n; subst e; have hy8 : wr.cell? (ay9.add jj) = some (.int .i64 (rd t jj)) := by simpa using hy9
             have hx0 : wr.cell? ⟨gb, 0, none⟩ = some (.int .i64 a0_0) := (zK BK.out 0).trans rfl; have hx1 : wr.cell? ⟨gb, 1, none⟩ = some (.int .i64 a0_1) := (zK BK.out 1).trans rfl; have hx2 : wr.cell? ⟨gb, 2, none⟩ = some (.slice A0_2 l0_2.length c0_2) := (zK BK.out 2).trans rfl; have hx3 : wr.cell? ⟨gb, 3, none⟩ = some (.slice A0_3 l0_3.length c0_3) := (zK BK.out 3).trans rfl; have hx4 : wr.cell? ⟨gb, 4, none⟩ = some (.slice A0_4 l0_4.length c0_4) := (zK BK.out 4).trans rfl; have hx5 : wr.cell? ⟨gb, 5, none⟩ = some (.slice A0_5 l0_5.length c0_5) := (zK BK.out 5).trans rfl; have L2 := zA hlt2; clear hy9; have CS := SY.out (rd t jj) wr HB.out; have SE := zA (show t.getD jj 0 = rd t jj from rfl); generalize rd t jj = x at hy8 CS SE; cases hs : symB a0_0 a0_1 x with
             | true =>
              rw [hs] at CS; have SX := zA hs; clear hs; go_wp2_with fail; refine CS.mono ?_; rintro e w' ⟨rfl, hb'⟩; clear CS hd2; go_wp2
              go_roundg (t.length - (jj + 1))
              case measure => have := L2.out; omega
              case rel => exact ⟨jj + 1, zz1e L2, zz1n, zz1l, ⟨fun (i : Nat) (hi : i < jj + 1) => if ej : i = jj then (by subst ej; rw [SE.out]; exact SX.out) else S.out i (by have := hi; have := ej; omega)⟩, ⟨zM BK.out hb'⟩, ⟨zS HI9.out hb'⟩, ⟨zG HB.out hb'⟩⟩
             | false =>
              rw [hs] at CS; have J4 := zA (show listsF a0_0 a0_1 a2 none l1 = false by rw [R.out, PV2.out, OKD.out, NOS.out jj L2.out (by rw [SE.out]; exact hs), Bool.false_and]); clear hs; go_wp2_with fail; refine CS.mono ?_; rintro e w' ⟨rfl, hb'⟩; clear CS hd2 hlt2; go_wp2; go_ret; exact ⟨zz1g J4, zG HB.out hb'⟩
           · have hd2 : decide (jj < t.length) = false := decide_eq_false hlt2; have RW := zA (YESS.out (fun i hi => S.out i zz1n)); have J5 := zA (show listsF a0_0 a0_1 a2 none l1 = listsF a0_0 a0_1 a2 (prevL l1 (m + 1 + 1)) (l1.drop (m + 1 + 1)) by rw [R.out, PV2.out, OKD.out, RW.out]; rfl); clear hlt2; go_wp2
             go_roundg (l1.length - (m + 1 + 1))
             case measure => have := L.out; omega
             case rel => exact ⟨m + 1 + 1, zz1e L, zz1n, zz1l, J5, ⟨fun z_ hz_ => by rw [PRN.out] at hz_; cases hz_; exact H1x.out⟩, BK, HB⟩
         | false =>
          refine wp_region_later zz1j zz1j ?_; (repeat (go_big_quiet_step (first | (go_at_call 81; with_reducible exact Later.callD (spec_l1In.calls (rd y 0) 0 (wrap64 (a0_0 - 1)) true _ J1.out)) | (go_at_call 112; with_reducible exact Later.callD (CM _ (Later.below _)))))); refine wpQuiet_nil ?_; intro w4_ hw4; obtain ⟨⟨w4, hb4⟩, hw4⟩ := hw4; subst hw4; (try dsimp only); have B4 := zA hb4; clear hb4; have J4 := zA (show listsF a0_0 a0_1 a2 none l1 = false by rw [R.out, PV2.out, OKD.out]; rw [Bool.false_and, Bool.and_false]); clear q0 q1 hd; go_wp2; go_ret; exact ⟨zz1g J4, zG HB.out B4.out⟩
      · have J1 := zA (show spec_l1In.f (rd y 0) 0 (wrap64 (a0_0 - 1)) = some false by rw [l1In_eq, decide_eq_false h2]); have W3 := zA (show rowOk a0_0 a0_1 a2 y = false by unfold rowOk; rw [decide_eq_false h2]; simp); clear h2; refine wp_region_later zz1j zz1j ?_; (repeat (go_big_quiet_step (first | (go_at_call 81; with_reducible exact Later.callD (spec_l1In.calls (rd y 0) 0 (wrap64 (a0_0 - 1)) false _ J1.out))))); refine wpQuiet_nil ?_; intro w4_ hw4; obtain ⟨⟨w4, hb4⟩, hw4⟩ := hw4; subst hw4; (try dsimp only); have B4 := zA hb4; clear hb4; have J4 := zA (show listsF a0_0 a0_1 a2 none l1 = false by rw [R.out, OKD.out]; rw [W3.out, Bool.false_and]); clear q0 q1 hd; go_wp2; go_ret; exact ⟨zz1g J4, zG HB.out B4.out⟩
    · have e1 : ((y.length : Int) != a2) = true := by simpa using h1
      have W3 := zA (show rowOk a0_0 a0_1 a2 y = false by unfold rowOk; rw [decide_eq_false h1]; simp); clear h1; refine wp_region_later zz1j zz1j ?_; (repeat (go_big_quiet_step (fail))); refine wpQuiet_nil ?_; intro w4_ hw4; obtain ⟨⟨w4, hb4⟩, hw4⟩ := hw4; subst hw4; (try dsimp only); have B4 := zA hb4; clear hb4; have J4 := zA (show listsF a0_0 a0_1 a2 none l1 = false by rw [R.out, OKD.out]; rw [W3.out, Bool.false_and]); clear q0 q1 hd; go_wp2; go_ret; exact ⟨zz1g J4, zG HB.out B4.out⟩
  · have hd : decide (kk < l1.length) = false := decide_eq_false hlt; have FIN := zA (show listsF a0_0 a0_1 a2 none l1 = true by rw [R.out, List.drop_of_length_le zz1n]; cases kk <;> rfl); clear hlt; go_wp2; go_ret; exact ⟨zz1g FIN, HB.out⟩
end Go.Proofs.Ytkocahlifffgjaa.P
namespace Go.Proofs.Ytkocahlifffgjaa.P
open Go.RowKit Go.Proofs.YtkocahlifffgjaaW.PrintWords Go.Proofs.YtkocahlifffgjaaW.PrintLast Go.Proofs.YtkocahlifffgjaaW.PrintMore
attribute [local go_sem] max2_int min2_int max_two min_two max_three min_three max_four min_four
set_option linter.unusedVariables false
set_option linter.unusedSimpArgs false
mutual
def spec_GoodBinary.j0 : Nat → Bool → Int → Int → List (List Int) → List (List Int) → List Int → List (List Int) → Option (Bool)
 | 0, _, _, _, _, _, _, _ => none
 | k + 1, x22, aN, aT, aE, aI, aQ, aM => if x22 = true then (some false) else (spec_GoodBinary.l0 k aM (aM.length : Int) 0 aN aT aE aI aQ aM)
def spec_GoodBinary.l0 : Nat → List (List Int) → Int → Int → Int → Int → List (List Int) → List (List Int) → List Int → List (List Int) → Option (Bool)
 | 0, _, _, _, _, _, _, _, _, _ => none
 | k + 1, iV, lA, hG, aN, aT, aE, aI, aQ, aM => if hG < lA then (if 0 ≤ hG then (if hG < (iV.length : Int) then (if ((rd_L1 iV hG).length : Int) = 2 then (spec_GoodBinary.l0 k iV lA (wrap64 (hG + 1)) aN aT aE aI aQ aM) else (some false)) else (none)) else (none)) else ((spec_l5Rising.f aN aT aE aI aQ aM aE 3).bind fun dw => (if dw = true then ((spec_l5Rising.f aN aT aE aI aQ aM aI 2).bind fun cL => (if cL = true then ((spec_l1Rising.f k aQ 0 (wrap64 (aN - 1))).bind fun b8 => (some b8)) else (some false))) else (some false)))
end
def spec_GoodBinary.f (k : Nat) (ah : Int) (ai : Int) (ab : List (List Int)) (ae : List (List Int)) (ag : List Int) (af : List (List Int)) : Option (Bool) := (spec_l1In.f ah 1 40).bind fun aG => (if aG = true then ((spec_l1In.f ai 1 4).bind fun bZ => (if bZ = true then (spec_GoodBinary.j0 k (decide ((af.length : Int) > ah)) ah ai ab ae ag af) else (spec_GoodBinary.j0 k true ah ai ab ae ag af))) else (spec_GoodBinary.j0 k true ah ai ab ae ag af))
set_option maxHeartbeats 8000000 in
set_option maxRecDepth 100000 in
theorem spec_GoodBinary.calls (k : Nat) (ah : Int) (ai : Int) (ay : Option Addr) (ap : Nat) (ab : List (List Int)) (ax : Option Addr) (au : Nat) (ae : List (List Int)) (aq : Option Addr) (ar : Nat) (ag : List Int) (av : Option Addr) (aw : Nat) (af : List (List Int)) (r : Bool) (w : World) (bw : Kd.C (Kd.slice 3 (Kd.int .i64)) w ay ab.length ab) (bx : ab.length ≤ ap) (bz : Kd.C (Kd.slice 3 (Kd.int .i64)) w ax ae.length ae) (bA : ae.length ≤ au) (bB : Kd.C (Kd.int .i64) w aq ag.length ag) (bC : ag.length ≤ ar) (bD : Kd.C (Kd.slice 3 (Kd.int .i64)) w av af.length af) (bE : af.length ≤ aw) (h : spec_GoodBinary.f k ah ai ab ae ag af = some r) :
 Calls Try.prog 50 #[.agg #[.int .i64 ah, .int .i64 ai, .slice ay ab.length ap, .slice ax ae.length au, .slice aq ag.length ar, .slice av af.length aw]] w fun e w' => e = .returned (.bool r) ∧ Below w.heap.size w w' := by
 have hu29 := Try.underlying29; have bm := zA bw; have bF := zA bx; clear bw bx; have bq := zA bz; have bG := zA bA; clear bz bA; have bH := zA bB; have bI := zA bC; clear bB bC; have bJ := zA bD; have bN := zA bE; clear bD bE; have HB := zA (Below.refl w.heap.size w); have H : ((spec_l1In.f ah 1 40).bind fun aG => (if aG = true then ((spec_l1In.f ai 1 4).bind fun bZ => (if bZ = true then (spec_GoodBinary.j0 k (decide ((af.length : Int) > ah)) ah ai ab ae ag af) else (spec_GoodBinary.j0 k true ah ai ab ae ag af))) else (spec_GoodBinary.j0 k true ah ai ab ae ag af))) = some r := h; clear h; have kd := zA H; clear H; go_enter Try.func50, Try.ntmps50
 go_upto_region 1 with (first | ((with_reducible refine gate_dst (N := 1) rfl ?_); (try (refine gate_guard zz1p ?_; dsimp only)); refine box_event ?hg (N := 1) ?hd (cs := #[.int .i64 ah, .int .i64 ai, .slice ay ab.length ap, .slice ax ae.length au, .slice aq ag.length ar, .slice av af.length aw]) (t := 29) ?hr ?_; (case hd => rfl); (case hg => rfl); (case hr => first | (go_simp; done) | (go_simp; rfl)); intro ad hg w3 hbox hb; have aa := zA (hbox); have ce := zA ((by rw [hg]; exact (zF (zz0y HB)) : w.heap.size ≤ ad)); have ac := zA ((by rw [hg]; exact (zF (zz0y HB)) : w.heap.size ≤ ad)); replace HB := zA (zG (zz0y HB) hb); clear hb hbox hg))
 (try simp only [Act.put, List.setIfInBounds_toArray, List.set_cons_zero, List.set_cons_succ])
 go_cut [22] (fun v22 wc => ∃ (kq : Nat) (kY : Bool), v22 = .bool kY ∧ Aside0 (spec_GoodBinary.j0 kq kY ah ai ab ae ag af = some r) ∧ Aside0 (kq ≤ k) ∧ Aside0 (wc.heap[ad]? = some (.cells #[.int .i64 ah, .int .i64 ai, (.slice ay ab.length ap), (.slice ax ae.length au), (.slice aq ag.length ar), (.slice av af.length aw)] 29 (0, 0))) ∧ Aside0 (Below w.heap.size w wc))
 case first =>
  have H := kd.out; clear kd; replace H := Option.bind_eq_some_iff.mp H; obtain ⟨aG, io, H⟩ := H; have A4 := zA io; clear io; by_cases c5 : aG = true
  · subst c5; rw [if_pos rfl] at H; replace H := Option.bind_eq_some_iff.mp H; obtain ⟨bZ, kT, H⟩ := H; have A6 := zA kT; clear kT; by_cases c7 : bZ = true
    · subst c7; rw [if_pos rfl] at H; have H' := zA H; clear H; obtain ⟨fb, fc, fd, fe, ff, fg⟩ := zk6 aa.out; go_wp2_with (first | ((with_reducible refine gate_callee (f := 81) rfl ?_); refine goesL_ (some 7) rfl rfl Try.func81 zz1j rfl #[.int .i64 ah, .int .i64 1, .int .i64 40] rfl zz0i ?_; (with_reducible refine (spec_l1In.calls ah 1 40 true _ A4.out).mono ?_); rintro e w' ⟨rfl, ⟨nd, rfl⟩⟩; refine ⟨_, rfl, ?_⟩) | (go_at_call 81; (with_reducible refine (spec_l1In.calls ai 1 4 true _ A6.out).mono ?_); rintro e w' ⟨rfl, ⟨nd, rfl⟩⟩))
      go_meet
      case rel => exact ⟨_, (decide ((af.length : Int) > ah)), zz16, H', ⟨zz1a⟩, ⟨zz10 aa⟩, ⟨zz0p HB ac⟩⟩
    · replace c7 := Bool.eq_false_iff.mpr c7; subst c7; rw [if_neg zFt] at H; have H' := zA H; clear H; obtain ⟨iW, iX, kl, km, kn, ko⟩ := zk6 aa.out; go_wp2_with (first | ((with_reducible refine gate_callee (f := 81) rfl ?_); refine goesL_ (some 7) rfl rfl Try.func81 zz1j rfl #[.int .i64 ah, .int .i64 1, .int .i64 40] rfl zz0i ?_; (with_reducible refine (spec_l1In.calls ah 1 40 true _ A4.out).mono ?_); rintro e w' ⟨rfl, ⟨nd, rfl⟩⟩; refine ⟨_, rfl, ?_⟩) | (go_at_call 81; (with_reducible refine (spec_l1In.calls ai 1 4 false _ A6.out).mono ?_); rintro e w' ⟨rfl, ⟨nd, rfl⟩⟩))
      go_meet
      case rel => exact ⟨_, (true), zz16, H', ⟨zz1a⟩, ⟨zz10 aa⟩, ⟨zz0p HB ac⟩⟩
  · replace c5 := Bool.eq_false_iff.mpr c5; subst c5; rw [if_neg zFt] at H; have H' := zA H; clear H; obtain ⟨eG, eH, gm, gn, gp, gq⟩ := zk6 aa.out; go_wp2_with (first | ((with_reducible refine gate_callee (f := 81) rfl ?_); refine goesL_ (some 7) rfl rfl Try.func81 zz1j rfl #[.int .i64 ah, .int .i64 1, .int .i64 40] rfl zz0i ?_; (with_reducible refine (spec_l1In.calls ah 1 40 false _ A4.out).mono ?_); rintro e w' ⟨rfl, ⟨nd, rfl⟩⟩; refine ⟨_, rfl, ?_⟩))
    go_meet
    case rel => exact ⟨_, (true), zz16, H', ⟨zz1a⟩, ⟨zz10 aa⟩, ⟨zz0p HB ac⟩⟩
 case rest =>
  clear kd; (try clear p2); (try clear c5); (try clear c7); (try clear c8); (try clear eG); (try clear eH); (try clear gm); (try clear gn); (try clear gp); (try clear gq); (try clear fb); (try clear fc); (try clear fd); (try clear fe); (try clear ff); (try clear fg); (try clear iW); (try clear iX); (try clear kl); (try clear km); (try clear kn); (try clear ko); obtain ⟨kq, kY, rfl, HA, HJ1, aa, HB⟩ := hcut; cases kq with
  | zero => exact absurd HA.out (by simp [spec_GoodBinary.j0])
  | succ kj1 =>
   have H := HA.out; clear HA; simp only [spec_GoodBinary.j0] at H; by_cases fG : kY = true
   · subst fG; rw [if_pos rfl] at H; obtain rfl := Option.some.inj H; go_wp2; go_ret; exact ⟨zz0z, zz0p HB ac⟩
   · replace fG := Bool.eq_false_iff.mpr fG; subst fG; rw [if_neg zFt] at H; have H' := zA H; clear H; obtain ⟨gr, gs, gt, gu, gv, gw⟩ := zk6 aa.out; go_wp2; go_loopg [26] kj1 (fun kq rH w' => ∃ (aH : Int), rH = .int .i64 aH ∧ Aside0 (spec_GoodBinary.l0 kq af (af.length : Int) aH ah ai ab ae ag af = some r) ∧ Aside0 (kq ≤ kj1) ∧ Aside0 (w'.heap[ad]? = some (.cells #[.int .i64 ah, .int .i64 ai, (.slice ay ab.length ap), (.slice ax ae.length au), (.slice aq ag.length ar), (.slice av af.length aw)] 29 (0, 0))) ∧ Aside0 (Below w.heap.size w w'))
     case atStart => exact ⟨(0), zz16, H', ⟨Nat.le_refl _⟩, ⟨zz10 aa⟩, ⟨zz0p HB ac⟩⟩
     case round =>
      clear H'; (try clear c1); (try clear p2); (try clear c5); (try clear c7); (try clear c8); (try clear fG); (try clear eG); (try clear eH); (try clear gm); (try clear gn); (try clear gp); (try clear gq); (try clear gr); (try clear gs); (try clear gt); (try clear gu); (try clear gv); (try clear gw); (try clear fb); (try clear fc); (try clear fd); (try clear fe); (try clear ff); (try clear fg); (try clear iW); (try clear iX); (try clear kl); (try clear km); (try clear kn); (try clear ko); (try clear p2); obtain ⟨aH, rfl, HA, cN, aa, HB⟩ := hrel; cases gk with
      | zero => exact absurd HA.out (by simp [spec_GoodBinary.l0])
      | succ k2 =>
       have H := HA.out; clear HA; simp only [spec_GoodBinary.l0] at H; by_cases e9 : aH < (af.length : Int)
       · rw [if_pos e9] at H; have hE := decide_eq_true e9; clear e9; replace H := zIn H; obtain ⟨ip, H⟩ := H; have jA : decide (0 ≤ aH) = true := decide_eq_true ip; clear ip; replace H := zIn H; obtain ⟨f7, H⟩ := H; have f8 : decide (aH < (af.length : Int)) = true := decide_eq_true f7; clear f7; by_cases gM : ((rd_L1 af aH).length : Int) = 2
         · rw [if_pos gM] at H; have ix : (((rd_L1 af aH).length : Int) == 2) = true := beq_iff_eq.mpr gM; have c16b1 : (((rd_L1 af aH).length : Int) != 2) = false := bne_eq_false_iff_eq.mpr gM; clear gM; have H' := zA H; clear H; have dr : 0 ≤ (aH : Int) := of_decide_eq_true zz1i; have dt : aH < (af.length : Int) := of_decide_eq_true zz1i; obtain ⟨gZ, gN, gO, f9, bR, cy, cz⟩ := at_L1 bJ.out aH dr dt; cases f9; replace bR := (HB.out.cell (World.block_lt_of_cell? w _ bR)).trans bR; have dk := zA cz; have fQ := zA cy; clear cz cy; replace dr := eq_true dr; replace dt := eq_true dt; go_wp2
           go_roundg k2
           case measure => have := HJ1.out; have := cN.out; omega
           case rel => exact ⟨(wrap64 (aH + 1)), zz16, H', ⟨zz1b HJ1 cN⟩, ⟨zz10 aa⟩, ⟨zz0p HB ac⟩⟩
         · rw [if_neg gM] at H; have ix : (((rd_L1 af aH).length : Int) == 2) = false := beq_eq_false_iff_ne.mpr gM; have c16b1 : (((rd_L1 af aH).length : Int) != 2) = true := bne_iff_ne.mpr gM; obtain rfl := Option.some.inj H; have dr : 0 ≤ (aH : Int) := of_decide_eq_true zz1i; have dt : aH < (af.length : Int) := of_decide_eq_true zz1i; obtain ⟨gZ, gN, gO, f9, bR, cy, cz⟩ := at_L1 bJ.out aH dr dt; cases f9; replace bR := (HB.out.cell (World.block_lt_of_cell? w _ bR)).trans bR; have dk := zA cz; have fQ := zA cy; clear cz cy; replace dr := eq_true dr; replace dt := eq_true dt; go_wp2; go_ret; exact ⟨zz0z, zz0p HB ac⟩
       · rw [if_neg e9] at H; have hE := decide_eq_false e9; clear e9; replace H := Option.bind_eq_some_iff.mp H; obtain ⟨dw, l6, H⟩ := H; have qF := zA l6; clear l6; by_cases gP : dw = true
         · subst gP; rw [if_pos rfl] at H; replace H := Option.bind_eq_some_iff.mp H; obtain ⟨cL, l7, H⟩ := H; have qG := zA l7; clear l7; by_cases hs : cL = true
           · subst hs; rw [if_pos rfl] at H; replace H := Option.bind_eq_some_iff.mp H; obtain ⟨b8, jB, H⟩ := H; have nu := zA jB; clear jB; obtain rfl := Option.some.inj H; obtain ⟨iY, iZ, hcz22_2, hcz22_3, hcz22_4, hcz22_5⟩ := zk6 aa.out; go_wp2_with (first | ((with_reducible refine gate_callee (f := 88) rfl ?_); refine goesL_ (some 37) rfl rfl Try.func88 zz1j rfl #[.agg #[.int .i64 ah, .int .i64 ai, .slice ay ab.length ap, .slice ax ae.length au, .slice aq ag.length ar, .slice av af.length aw], .slice ay ab.length ap, .int .i64 3] rfl zz0i ?_; (with_reducible refine (spec_l5Rising.calls ah ai _ _ ab _ _ ae _ _ ag _ _ af _ _ ab 3 true _ ?ak ?al ?aJ ?aK ?be ?bf ?bg ?bh ?co ?bS qF.out).mono ?_); (case ak => exact (zz11 bm HB)); (case al => exact bF.out); (case aJ => exact (zz11 bq HB)); (case aK => exact bG.out); (case be => exact (zz11 bH HB)); (case bf => exact bI.out); (case bg => exact (zz11 bJ HB)); (case bh => exact bN.out); (case co => exact (zz11 bm HB)); (case bS => exact bF.out); rintro e qH ⟨rfl, hb⟩; refine ⟨_, rfl, ?_⟩; replace aa := zA (zMp aa.out hb); replace HB := zA (zG (zz0p HB ac) hb); (try clear hb); (try clear hb2); (try clear hk); (try clear hi); obtain ⟨hcz24_0, hcz24_1, hcz24_2, hcz24_3, hcz24_4, hcz24_5⟩ := zk6 aa.out; have hfz24_5 := zL aa.out 5) | (go_at_call 88; (with_reducible refine (spec_l5Rising.calls ah ai _ _ ab _ _ ae _ _ ag _ _ af _ _ ae 2 true _ ?ak ?al ?aJ ?aK ?be ?bf ?bg ?bh ?co ?bS qG.out).mono ?_); (case ak => exact (zz11 bm HB)); (case al => exact bF.out); (case aJ => exact (zz11 bq HB)); (case aK => exact bG.out); (case be => exact (zz11 bH HB)); (case bf => exact bI.out); (case bg => exact (zz11 bJ HB)); (case bh => exact bN.out); (case co => exact (zz11 bq HB)); (case bS => exact bG.out); rintro e w25 ⟨rfl, hb⟩; replace aa := zA (zMp aa.out hb); replace HB := zA (zG (zz0p HB ac) hb); (try clear hb); (try clear hb2); (try clear hk); (try clear hi); obtain ⟨i0, i1, i2, i3, i4, i5⟩ := zk6 aa.out; have hfz26_5 := zL aa.out 5) | (go_at_call 59; (with_reducible refine (spec_l1Rising.calls k2 _ _ ag 0 (wrap64 (ah - 1)) b8 _ ?ak ?al nu.out).mono ?_); (case ak => exact (zz11 bH HB)); (case al => exact bI.out); rintro e w' ⟨rfl, ⟨nd, rfl⟩⟩)); go_ret; exact ⟨zz0z, zz0p HB ac⟩
           · replace hs := Bool.eq_false_iff.mpr hs; subst hs; rw [if_neg zFt] at H; obtain rfl := Option.some.inj H; obtain ⟨hcz27_0, hcz27_1, hcz27_2, hcz27_3, hcz27_4, hcz27_5⟩ := zk6 aa.out; go_wp2_with (first | ((with_reducible refine gate_callee (f := 88) rfl ?_); refine goesL_ (some 37) rfl rfl Try.func88 zz1j rfl #[.agg #[.int .i64 ah, .int .i64 ai, .slice ay ab.length ap, .slice ax ae.length au, .slice aq ag.length ar, .slice av af.length aw], .slice ay ab.length ap, .int .i64 3] rfl zz0i ?_; (with_reducible refine (spec_l5Rising.calls ah ai _ _ ab _ _ ae _ _ ag _ _ af _ _ ab 3 true _ ?ak ?al ?aJ ?aK ?be ?bf ?bg ?bh ?co ?bS qF.out).mono ?_); (case ak => exact (zz11 bm HB)); (case al => exact bF.out); (case aJ => exact (zz11 bq HB)); (case aK => exact bG.out); (case be => exact (zz11 bH HB)); (case bf => exact bI.out); (case bg => exact (zz11 bJ HB)); (case bh => exact bN.out); (case co => exact (zz11 bm HB)); (case bS => exact bF.out); rintro e rI ⟨rfl, hb⟩; refine ⟨_, rfl, ?_⟩; replace aa := zA (zMp aa.out hb); replace HB := zA (zG (zz0p HB ac) hb); (try clear hb); (try clear hb2); (try clear hk); (try clear hi); obtain ⟨hcz29_0, hcz29_1, hcz29_2, hcz29_3, hcz29_4, hcz29_5⟩ := zk6 aa.out; have hfz29_5 := zL aa.out 5) | (go_at_call 88; (with_reducible refine (spec_l5Rising.calls ah ai _ _ ab _ _ ae _ _ ag _ _ af _ _ ae 2 false _ ?ak ?al ?aJ ?aK ?be ?bf ?bg ?bh ?co ?bS qG.out).mono ?_); (case ak => exact (zz11 bm HB)); (case al => exact bF.out); (case aJ => exact (zz11 bq HB)); (case aK => exact bG.out); (case be => exact (zz11 bH HB)); (case bf => exact bI.out); (case bg => exact (zz11 bJ HB)); (case bh => exact bN.out); (case co => exact (zz11 bq HB)); (case bS => exact bG.out); rintro e sh ⟨rfl, hb⟩; replace aa := zA (zMp aa.out hb); replace HB := zA (zG (zz0p HB ac) hb); (try clear hb); (try clear hb2); (try clear hk); (try clear hi))); go_ret; exact ⟨zz0z, zz0p HB ac⟩
         · replace gP := Bool.eq_false_iff.mpr gP; subst gP; rw [if_neg zFt] at H; obtain rfl := Option.some.inj H; obtain ⟨hcz31_0, hcz31_1, hcz31_2, hcz31_3, hcz31_4, hcz31_5⟩ := zk6 aa.out; go_wp2_with (first | ((with_reducible refine gate_callee (f := 88) rfl ?_); refine goesL_ (some 37) rfl rfl Try.func88 zz1j rfl #[.agg #[.int .i64 ah, .int .i64 ai, .slice ay ab.length ap, .slice ax ae.length au, .slice aq ag.length ar, .slice av af.length aw], .slice ay ab.length ap, .int .i64 3] rfl zz0i ?_; (with_reducible refine (spec_l5Rising.calls ah ai _ _ ab _ _ ae _ _ ag _ _ af _ _ ab 3 false _ ?ak ?al ?aJ ?aK ?be ?bf ?bg ?bh ?co ?bS qF.out).mono ?_); (case ak => exact (zz11 bm HB)); (case al => exact bF.out); (case aJ => exact (zz11 bq HB)); (case aK => exact bG.out); (case be => exact (zz11 bH HB)); (case bf => exact bI.out); (case bg => exact (zz11 bJ HB)); (case bh => exact bN.out); (case co => exact (zz11 bm HB)); (case bS => exact bF.out); rintro e pp ⟨rfl, hb⟩; refine ⟨_, rfl, ?_⟩; replace aa := zA (zMp aa.out hb); replace HB := zA (zG (zz0p HB ac) hb); (try clear hb); (try clear hb2); (try clear hk); (try clear hi))); go_ret; exact ⟨zz0z, zz0p HB ac⟩
end Go.Proofs.Ytkocahlifffgjaa.P
namespace Go.Proofs.Ytkocahlifffgjaa.P
open Go.RowKit Go.Proofs.YtkocahlifffgjaaW.PrintWords
set_option linter.unusedVariables false
set_option linter.unusedSimpArgs false
theorem l1Rising_loop (l : List Int) (lo hi : Int) (hb : l.length ≤ 9223372036854775807) (d : Nat) : ∀ (k i : Nat), i ≤ l.length → l.length - i = d → d < k →
 spec_l1Rising.l0 k l lo hi l l.length i = some (riseF lo hi (prevI l i) (l.drop i)) := by
 induction d with
 | zero =>
  intro k i h1 hd hk; obtain ⟨k, rfl⟩ : ∃ m, k = m + 1 := ⟨k - 1, zz1n⟩
  simp only [spec_l1Rising.l0]; rw [if_neg zz1n, List.drop_of_length_le (show l.length ≤ i by omega)]; cases i <;> rfl
 | succ d ih =>
  intro k i h1 hd hk; obtain ⟨k, rfl⟩ : ∃ m, k = m + 1 := ⟨k - 1, zz1n⟩
  have hi2 := ih k (i + 1) zz1n zz1n zz1n; simp only [spec_l1Rising.l0]; rw [if_pos zz1n, if_pos zz1n, if_pos zz1n, l1In_eq, getD_drop l i 0 zz1n]; simp only [Option.bind_some]; have e0 : l.getD i 0 = rd l i := rfl; rw [e0]; have ew : wrap64 ((i : Int) + 1) = ((i + 1 : Nat) : Int) := by unfold wrap64; omega
  have er : ∀ p m, riseF lo hi p (rd l i :: m) = (decide (lo ≤ rd l i ∧ rd l i ≤ hi) && ((match p with | none => true | some y => decide (y < rd l i)) && riseF lo hi (some (rd l i)) m)) := fun _ _ => rfl
  rw [er]; by_cases h : lo ≤ rd l i ∧ rd l i ≤ hi
  · rw [if_pos (decide_eq_true h), decide_eq_true h, Bool.true_and]; cases i with
    | zero => rw [if_neg zz1o, ew, hi2]; rfl
    | succ i =>
     have e1 : wrap64 (((i + 1 : Nat) : Int) - 1) = (i : Int) := by unfold wrap64; omega
     rw [if_pos zz1n, e1, if_pos zz1n, if_pos zz1n]; show _ = some (decide (rd l i < rd l ((i + 1 : Nat) : Int)) && _); by_cases h2 : rd l i < rd l ((i + 1 : Nat) : Int)
     · rw [if_neg zz1n, ew, hi2, decide_eq_true h2]; rfl
     · rw [if_pos zz1n, decide_eq_false h2]; rfl
  · rw [if_neg (by rw [decide_eq_false h]; exact Bool.false_ne_true), decide_eq_false h, Bool.false_and]
theorem l1Rising_eq (l : List Int) (lo hi : Int) (hb : l.length ≤ 9223372036854775807) (k : Nat) (hk : l.length < k) : spec_l1Rising.f k l lo hi = some (riseF lo hi none l) := by
 unfold spec_l1Rising.f; have := l1Rising_loop l lo hi hb l.length k 0 zz1n zz1n hk; simpa [prevI] using this
theorem goodB_from (a0 a1 : Int) (l2 l3 : List (List Int)) (l4 : List Int) (l5 : List (List Int)) (h : smallB l2 l3 l4 l5) (d : Nat) : ∀ (i : Nat), i ≤ l5.length → l5.length - i = d →
 Ev (fun k => spec_GoodBinary.l0 k l5 l5.length i a0 a1 l2 l3 l4 l5) (!((l5.drop i).any fun f => (f.length : Int) != 2) && (listsF a0 a1 3 none l2 && (listsF a0 a1 2 none l3 && riseF 0 (wrap64 (a0 - 1)) none l4))) := by
 have hb5 := h.2.2.2.1; have hb4 := h.2.2.1
 induction d with
 | zero =>
  intro i h1 hd; refine ⟨l4.length + 2, fun k hk => ?_⟩; dsimp only; obtain ⟨k, rfl⟩ : ∃ m, k = m + 1 := ⟨k - 1, zz1n⟩
  simp only [spec_GoodBinary.l0]; rw [if_neg zz1n, List.drop_of_length_le zz1n]; unfold spec_l5Rising.f; rw [if_pos zz1m, if_pos zz1m]; simp only [Option.bind_some]; cases listsF a0 a1 3 none l2 with
  | false => rfl
  | true =>
   rw [if_pos rfl]; cases listsF a0 a1 2 none l3 with
   | false => rfl
   | true =>
    rw [if_pos rfl, l1Rising_eq l4 0 (wrap64 (a0 - 1)) zz1n k zz1n]; rfl
 | succ d ih =>
  intro i h1 hd; obtain ⟨K, hi⟩ := ih (i + 1) zz1n zz1n; dsimp only at hi; refine ⟨K + 1, fun k hk => ?_⟩; dsimp only; obtain ⟨k, rfl⟩ : ∃ m, k = m + 1 := ⟨k - 1, zz1n⟩
  simp only [spec_GoodBinary.l0]; rw [if_pos zz1n, if_pos zz1n, if_pos zz1n, getD_drop l5 i [] zz1n, List.any_cons]; have e0 : l5.getD i [] = rd_L1 l5 i := rfl; rw [e0]; by_cases h2 : ((rd_L1 l5 i).length : Int) = 2
  · rw [if_pos h2, show wrap64 ((i : Int) + 1) = ((i + 1 : Nat) : Int) by unfold wrap64; omega, hi k zz1n, show (((rd_L1 l5 i).length : Int) != 2) = false by rw [h2]; rfl, Bool.false_or]
  · rw [if_neg h2, show (((rd_L1 l5 i).length : Int) != 2) = true by simpa using h2]; rfl
theorem spec_GoodBinary_ev (a0 a1 : Int) (l2 l3 : List (List Int)) (l4 : List Int) (l5 : List (List Int)) (h : smallB l2 l3 l4 l5) : Ev (fun k => spec_GoodBinary.f k a0 a1 l2 l3 l4 l5) (goodB a0 a1 l2 l3 l4 l5) := by
 obtain ⟨K, hk0⟩ := goodB_from a0 a1 l2 l3 l4 l5 h l5.length 0 zz1n zz1n; dsimp only at hk0; rw [List.drop_zero] at hk0; refine ⟨K + 1, fun k hk => ?_⟩; dsimp only; obtain ⟨k, rfl⟩ : ∃ m, k = m + 1 := ⟨k - 1, zz1n⟩
 unfold spec_GoodBinary.f goodB; rw [l1In_eq, l1In_eq]; simp only [Option.bind_some]; by_cases h1 : 1 ≤ a0 ∧ a0 ≤ 40
 · rw [decide_eq_true h1, if_pos rfl]; by_cases h2 : 1 ≤ a1 ∧ a1 ≤ 4
   · rw [decide_eq_true h2, if_pos rfl]; simp only [spec_GoodBinary.j0]; by_cases h3 : (l5.length : Int) ≤ a0
     · rw [decide_eq_false zz1n, if_neg zz1m, decide_eq_true h3]; have := hk0 k zz1n; rw [show ((0 : Nat) : Int) = 0 from rfl] at this; rw [this]; congr 1; cases (l5.any fun f => (f.length : Int) != 2) <;> cases listsF a0 a1 3 none l2 <;> cases listsF a0 a1 2 none l3 <;> cases riseF 0 (wrap64 (a0 - 1)) none l4 <;> rfl
     · rw [decide_eq_true zz1n, if_pos rfl, decide_eq_false h3]; cases riseF 0 (wrap64 (a0 - 1)) none l4 <;> rfl
   · rw [decide_eq_false h2, if_neg zz1m]; simp only [spec_GoodBinary.j0]; rfl
 · rw [decide_eq_false h1, if_neg zz1m]; simp only [spec_GoodBinary.j0]; rfl
theorem rise_ext {α : Type} (lt : α → α → Prop) (irr : ∀ x, ¬ lt x x) (tr : ∀ x y z, lt x y → lt y z → lt x z) : ∀ {a b : List α}, a.Pairwise lt → b.Pairwise lt → (∀ x, x ∈ a ↔ x ∈ b) → a = b
 | [], [], _, _, _ => rfl
 | [], y :: b, _, _, h => absurd ((h y).2 List.mem_cons_self) zz1o
 | x :: a, [], _, _, h => absurd ((h x).1 List.mem_cons_self) zz1o
 | x :: a, y :: b, ha, hb, h => by
  obtain ⟨ha1, ha2⟩ := List.pairwise_cons.1 ha; obtain ⟨hb1, hb2⟩ := List.pairwise_cons.1 hb; have e : x = y := by
   rcases List.mem_cons.1 ((h x).1 List.mem_cons_self) with h1 | h1
   · exact h1
   · rcases List.mem_cons.1 ((h y).2 List.mem_cons_self) with h2 | h2
     · exact h2.symm
     · exact absurd (tr _ _ _ (ha1 y h2) (hb1 x h1)) (irr x)
  subst e; rw [rise_ext lt irr tr ha2 hb2 fun z => ⟨fun hz => ?_, fun hz => ?_⟩]
  · rcases List.mem_cons.1 ((h z).1 (List.mem_cons_of_mem _ hz)) with h1 | h1
    · subst h1; exact absurd (ha1 z hz) (irr z)
    · exact h1
  · rcases List.mem_cons.1 ((h z).2 (List.mem_cons_of_mem _ hz)) with h1 | h1
    · subst h1; exact absurd (hb1 z hz) (irr z)
    · exact h1
def UpI (l : List Int) : Prop := l.Pairwise (· < ·)
theorem upI_ext {a b : List Int} (ha : UpI a) (hb : UpI b) (h : ∀ x, x ∈ a ↔ x ∈ b) : a = b := rise_ext (· < ·) (fun x h => by omega) (fun x y z h1 h2 => by omega) ha hb h
def putI : List Int → Int → List Int
 | [], n => [n]
 | a :: l, n => if a < n then a :: putI l n else if a = n then a :: l else n :: a :: l
theorem mem_putI (l : List Int) (n x : Int) : x ∈ putI l n ↔ x = n ∨ x ∈ l := by
 induction l with
 | nil => simp [putI]
 | cons a l ih =>
  simp only [putI]; by_cases h1 : a < n
  · rw [if_pos h1, List.mem_cons, ih, List.mem_cons]; exact ⟨fun h => h.elim (fun h => .inr (.inl h)) (fun h => h.elim .inl (fun h => .inr (.inr h))), fun h => h.elim (fun h => .inr (.inl h)) (fun h => h.elim .inl (fun h => .inr (.inr h)))⟩
  · rw [if_neg h1]; by_cases h2 : a = n
    · rw [if_pos h2]; subst h2; exact ⟨.inr, fun h => h.elim (fun h => by subst h; exact List.mem_cons_self) id⟩
    · rw [if_neg h2, List.mem_cons]
theorem upI_put (l : List Int) (n : Int) (h : UpI l) : UpI (putI l n) := by
 induction l with
 | nil => exact List.pairwise_singleton _ _
 | cons a l ih =>
  obtain ⟨h1, h2⟩ := List.pairwise_cons.1 h; simp only [putI]; by_cases h3 : a < n
  · rw [if_pos h3]; refine List.pairwise_cons.2 ⟨fun x hx => ?_, ih h2⟩; rcases (mem_putI l n x).1 hx with h4 | h4
    · omega
    · exact h1 x h4
  · rw [if_neg h3]; by_cases h4 : a = n
    · rw [if_pos h4]; exact h
    · rw [if_neg h4]; refine List.pairwise_cons.2 ⟨fun x hx => ?_, h⟩; rcases List.mem_cons.1 hx with h5 | h5
      · omega
      · have := h1 x h5; omega
theorem putI_len (l : List Int) (n : Int) : (putI l n).length ≤ l.length + 1 := by
 induction l with
 | nil => simp [putI]
 | cons a l ih =>
  simp only [putI]
  split
  · simp; omega
  · split <;> simp
def sortI (l : List Int) : List Int := l.foldl putI []
theorem foldI_ok (l : List Int) : ∀ a, UpI a → UpI (l.foldl putI a) ∧ ∀ x, x ∈ l.foldl putI a ↔ x ∈ l ∨ x ∈ a := by
 induction l with
 | nil => intro a h; exact ⟨h, fun x => by simp⟩
 | cons b l ih =>
  intro a h; obtain ⟨h1, h2⟩ := ih (putI a b) (upI_put a b h); refine ⟨h1, fun x => (h2 x).trans ?_⟩; rw [mem_putI, List.mem_cons]; exact ⟨fun h => h.elim (fun h => .inl (.inr h)) (fun h => h.elim (fun h => .inl (.inl h)) .inr), fun h => h.elim (fun h => h.elim (fun h => .inr (.inl h)) .inl) (fun h => .inr (.inr h))⟩
theorem sortI_up (l) : UpI (sortI l) := (foldI_ok l [] List.Pairwise.nil).1
theorem mem_sortI (l x) : x ∈ sortI l ↔ x ∈ l := ((foldI_ok l [] List.Pairwise.nil).2 x).trans zz1o
theorem upI_of {a l : List Int} (ha : UpI a) (h : ∀ x, x ∈ a ↔ x ∈ l) : a = sortI l := upI_ext ha (sortI_up l) fun x => (h x).trans (mem_sortI l x).symm
theorem upI_len (l : List Int) : ∀ lo hi : Int, UpI l → (∀ x, x ∈ l → lo ≤ x ∧ x < hi) → lo ≤ hi → (l.length : Int) ≤ hi - lo := by
 induction l with
 | nil => intro lo hi _ _ h; simp; omega
 | cons a l ih =>
  intro lo hi h hb hle; obtain ⟨h1, h2⟩ := List.pairwise_cons.1 h; have ha := hb a List.mem_cons_self; have := ih (a + 1) hi h2 (fun x hx => ⟨by have := h1 x hx; omega, (hb x (List.mem_cons_of_mem _ hx)).2⟩) zz1n; simp only [List.length_cons]; omega
inductive UpR (ps : List (List Int)) (S : Int → Prop) : Int → Prop
 | base {x : Int} : S x → UpR ps S x
 | step {p : List Int} : p ∈ ps → UpR ps S (rd p 1) → UpR ps S (rd p 0)
theorem UpR.least {ps : List (List Int)} {S T : Int → Prop} (h : ∀ x, S x → T x) (hc : ∀ p, p ∈ ps → T (rd p 1) → T (rd p 0)) {x : Int} (hx : UpR ps S x) : T x := by
 induction hx with
 | base h1 => exact h _ h1
 | step h1 _ ih => exact hc _ h1 ih
theorem UpR.mono {ps : List (List Int)} {S T : Int → Prop} (h : ∀ x, S x → T x) {x : Int} (hx : UpR ps S x) : UpR ps T x := hx.least (fun x hx => .base (h x hx)) (fun p hp h => .step hp h)
theorem UpR.one {ps : List (List Int)} {S : Int → Prop} {x : Int} : UpR ps S x ↔ ∃ y, S y ∧ UpR ps (· = y) x :=
 ⟨fun h => h.least (T := fun x => ∃ y, S y ∧ UpR ps (· = y) x) (fun x hx => ⟨x, hx, .base rfl⟩) (fun p hp ⟨y, hy, h⟩ => ⟨y, hy, .step hp h⟩), fun ⟨y, hy, h⟩ => h.mono fun x hx => by rw [hx]; exact hy⟩
theorem cmpL_self : ∀ l, cmpL l l = 0
 | [] => rfl
 | a :: l => by simp only [cmpL]; rw [if_neg zz1n, if_neg zz1n]; exact cmpL_self l
theorem cmpL_eq : ∀ l m, cmpL l m = 0 → l = m
 | [], [], _ => rfl
 | [], _ :: _, h => absurd h (by simp [cmpL])
 | _ :: _, [], h => absurd h (by simp [cmpL])
 | a :: l, b :: m, h => by
  simp only [cmpL] at h; by_cases h1 : a < b
  · rw [if_pos h1] at h; exact absurd h zz1m
  · by_cases h2 : b < a
    · rw [if_neg h1, if_pos h2] at h; exact absurd h zz1m
    · rw [if_neg h1, if_neg h2] at h; rw [cmpL_eq l m h, show a = b by omega]
theorem cmpL_neg : ∀ l m, cmpL m l = - cmpL l m
 | [], [] => rfl
 | [], _ :: _ => rfl
 | _ :: _, [] => rfl
 | a :: l, b :: m => by
  simp only [cmpL]; by_cases h1 : a < b
  · rw [if_neg zz1n, if_pos h1, if_pos h1]; rfl
  · by_cases h2 : b < a
    · rw [if_pos h2, if_neg h1, if_pos h2]
    · rw [if_neg h2, if_neg h1, if_neg h1, if_neg h2, cmpL_neg l m]
theorem cmpL_trans : ∀ (a b c : List Int), cmpL a b < 0 → cmpL b c < 0 → cmpL a c < 0
 | [], [], _, h, _ => absurd h zz1m
 | [], _ :: _, [], _, h => absurd h (by simp [cmpL])
 | [], _ :: _, _ :: _, _, _ => by simp [cmpL]
 | _ :: _, [], _, h, _ => absurd h (by simp [cmpL])
 | _ :: _, _ :: _, [], _, h => absurd h (by simp [cmpL])
 | x :: a, y :: b, z :: c, h1, h2 => by
  simp only [cmpL] at h1 h2 ⊢; by_cases xy : x < y
  · by_cases zy : z < y
    · rw [if_neg zz1n, if_pos zy] at h2; exact absurd h2 zz1m
    · rw [if_pos (show x < z by omega)]; decide
  · by_cases yx : y < x
    · rw [if_neg xy, if_pos yx] at h1; exact absurd h1 zz1m
    · have e : x = y := by omega
      subst e; rw [if_neg xy, if_neg yx] at h1; by_cases xz : x < z
      · rw [if_pos xz]; decide
      · rw [if_neg xz] at h2 ⊢; by_cases zx : z < x
        · rw [if_pos zx] at h2; exact absurd h2 zz1m
        · rw [if_neg zx] at h2 ⊢; exact cmpL_trans a b c h1 h2
def UpL (l : List (List Int)) : Prop := l.Pairwise (fun a b => cmpL a b < 0)
theorem upL_ext {a b : List (List Int)} (ha : UpL a) (hb : UpL b) (h : ∀ x, x ∈ a ↔ x ∈ b) : a = b := rise_ext _ (fun x h => by rw [cmpL_self] at h; omega) (fun x y z h1 h2 => cmpL_trans x y z h1 h2) ha hb h
def putL : List (List Int) → List Int → List (List Int)
 | [], n => [n]
 | a :: l, n => if cmpL a n < 0 then a :: putL l n else if a = n then a :: l else n :: a :: l
theorem mem_putL (l : List (List Int)) (n x : List Int) : x ∈ putL l n ↔ x = n ∨ x ∈ l := by
 induction l with
 | nil => simp [putL]
 | cons a l ih =>
  simp only [putL]; by_cases h1 : cmpL a n < 0
  · rw [if_pos h1, List.mem_cons, ih, List.mem_cons]; exact ⟨fun h => h.elim (fun h => .inr (.inl h)) (fun h => h.elim .inl (fun h => .inr (.inr h))), fun h => h.elim (fun h => .inr (.inl h)) (fun h => h.elim .inl (fun h => .inr (.inr h)))⟩
  · rw [if_neg h1]; by_cases h2 : a = n
    · rw [if_pos h2]; subst h2; exact ⟨.inr, fun h => h.elim (fun h => by subst h; exact List.mem_cons_self) id⟩
    · rw [if_neg h2, List.mem_cons]
theorem cmpL_flip {a n : List Int} (h1 : ¬ cmpL a n < 0) (h2 : a ≠ n) : cmpL n a < 0 := by
 have h3 := cmpL_neg a n; have h4 : cmpL a n ≠ 0 := fun h => h2 (cmpL_eq a n h)
 omega
theorem upL_put (l : List (List Int)) (n : List Int) (h : UpL l) : UpL (putL l n) := by
 induction l with
 | nil => exact List.pairwise_singleton _ _
 | cons a l ih =>
  obtain ⟨h1, h2⟩ := List.pairwise_cons.1 h; simp only [putL]; by_cases h3 : cmpL a n < 0
  · rw [if_pos h3]; refine List.pairwise_cons.2 ⟨fun x hx => ?_, ih h2⟩; rcases (mem_putL l n x).1 hx with h4 | h4
    · rw [h4]; exact h3
    · exact h1 x h4
  · rw [if_neg h3]; by_cases h4 : a = n
    · rw [if_pos h4]; exact h
    · rw [if_neg h4]; have h6 := cmpL_flip h3 h4; refine List.pairwise_cons.2 ⟨fun x hx => ?_, h⟩; rcases List.mem_cons.1 hx with h5 | h5
      · rw [h5]; exact h6
      · exact cmpL_trans _ _ _ h6 (h1 x h5)
def sortL (l : List (List Int)) : List (List Int) := l.foldl putL []
theorem foldL_ok (l : List (List Int)) : ∀ a, UpL a → UpL (l.foldl putL a) ∧ ∀ x, x ∈ l.foldl putL a ↔ x ∈ l ∨ x ∈ a := by
 induction l with
 | nil => intro a h; exact ⟨h, fun x => by simp⟩
 | cons b l ih =>
  intro a h; obtain ⟨h1, h2⟩ := ih (putL a b) (upL_put a b h); refine ⟨h1, fun x => (h2 x).trans ?_⟩; rw [mem_putL, List.mem_cons]; exact ⟨fun h => h.elim (fun h => .inl (.inr h)) (fun h => h.elim (fun h => .inl (.inl h)) .inr), fun h => h.elim (fun h => h.elim (fun h => .inr (.inl h)) .inl) (fun h => .inr (.inr h))⟩
theorem sortL_up (l) : UpL (sortL l) := (foldL_ok l [] List.Pairwise.nil).1
theorem mem_sortL (l x) : x ∈ sortL l ↔ x ∈ l := ((foldL_ok l [] List.Pairwise.nil).2 x).trans zz1o
theorem upL_of {a l : List (List Int)} (ha : UpL a) (h : ∀ x, x ∈ a ↔ x ∈ l) : a = sortL l := upL_ext ha (sortL_up l) fun x => (h x).trans (mem_sortL l x).symm
def setB (s : List Bool) : List Int := ((List.range s.length).filter fun i => s.getD i false).map fun i : Nat => (i : Int)
theorem mem_setB (s : List Bool) (x : Int) : x ∈ setB s ↔ (0 ≤ x ∧ x < s.length) ∧ s.getD x.toNat false = true := by
 unfold setB; rw [List.mem_map]; constructor
 · rintro ⟨i, hi, rfl⟩; rw [List.mem_filter, List.mem_range] at hi; exact ⟨⟨zz1n, zz1n⟩, by rw [Int.toNat_natCast]; exact hi.2⟩
 · rintro ⟨⟨h0, h1⟩, h⟩; exact ⟨x.toNat, by rw [List.mem_filter, List.mem_range]; exact ⟨zz1n, h⟩, zz1n⟩
theorem setB_up (s : List Bool) : UpI (setB s) := by
 unfold setB UpI; rw [List.pairwise_map]; exact (List.pairwise_lt_range.filter _).imp fun h => by omega
theorem setB_len (s : List Bool) : (setB s).length ≤ s.length := by
 unfold setB; rw [List.length_map]; exact Nat.le_trans (List.length_filter_le _ _) (by rw [List.length_range]; exact Nat.le_refl _)
theorem setB_of {s : List Bool} {a : List Int} (ha : UpI a) (h : ∀ x, x ∈ a ↔ (0 ≤ x ∧ x < s.length) ∧ s.getD x.toNat false = true) : a = setB s := upI_ext ha (setB_up s) fun x => (h x).trans (mem_setB s x).symm
theorem rd_in {l : List Int} {j : Nat} (hj : j < l.length) : rd l j ∈ l := by
 unfold rd; rw [Int.toNat_natCast, List.getD_eq_getElem?_getD, List.getElem?_eq_getElem hj]; exact List.getElem_mem hj
theorem in_rd {l : List Int} {x : Int} (h : x ∈ l) : ∃ j : Nat, j < l.length ∧ rd l j = x := by
 obtain ⟨j, hj, rfl⟩ := List.getElem_of_mem h; refine ⟨j, hj, ?_⟩; unfold rd; rw [Int.toNat_natCast, List.getD_eq_getElem?_getD, List.getElem?_eq_getElem hj]; rfl
theorem rd_drop1 {l : List Int} (j : Nat) : rd (l.drop 1) j = rd l ((j + 1 : Nat) : Int) := by
 unfold rd; rw [Int.toNat_natCast, Int.toNat_natCast, List.getD_eq_getElem?_getD, List.getD_eq_getElem?_getD, List.getElem?_drop, Nat.add_comm]
def RowIn (nons toks : Int) (l : List Int) : Prop := (0 ≤ rd l 0 ∧ rd l 0 < nons) ∧ ∀ j : Nat, 1 ≤ j → j < l.length → -toks ≤ rd l j ∧ rd l j < nons
structure OkB (nons toks : Int) (ps os : List (List Int)) (es : List Int) : Prop where
 n : 1 ≤ nons ∧ nons ≤ 40
 t : 1 ≤ toks ∧ toks ≤ 4
 e : ∀ x, x ∈ es → 0 ≤ x ∧ x < nons
 eu : UpI es
 p : ∀ x, x ∈ ps → x.length = 3 ∧ RowIn nons toks x
 o : ∀ x, x ∈ os → x.length = 2 ∧ RowIn nons toks x
theorem riseF_parts (lo hi : Int) : ∀ (p : Option Int) (l : List Int), riseF lo hi p l = true → (∀ x, x ∈ l → lo ≤ x ∧ x ≤ hi) ∧ UpI l ∧ ∀ y, p = some y → ∀ x, x ∈ l → y < x
 | _, [], _ => ⟨(fun _ h => by cases h), List.Pairwise.nil, (fun _ _ _ h => by cases h)⟩
 | p, x :: l, h => by
  simp only [riseF, Bool.and_eq_true, decide_eq_true_eq] at h; obtain ⟨h1, h2, h3⟩ := riseF_parts lo hi (some x) l h.2.2; refine ⟨fun z hz => (List.mem_cons.1 hz).elim (fun e => by rw [e]; exact h.1) (h1 z), List.pairwise_cons.2 ⟨h3 x rfl, h2⟩, fun y hy z hz => ?_⟩; subst hy; have h4 : y < x := by simpa using h.2.1
  rcases List.mem_cons.1 hz with e | e
  · rw [e]; exact h4
  · have := h3 x rfl z e; omega
theorem listsF_mem (nons toks many : Int) : ∀ (p : Option (List Int)) (l : List (List Int)), listsF nons toks many p l = true → ∀ x, x ∈ l → rowOk nons toks many x = true
 | _, [], _, _, h => by cases h
 | p, y :: l, h, x, hx => by
  simp only [listsF, Bool.and_eq_true] at h; rcases List.mem_cons.1 hx with e | e
  · rw [e]; exact h.1
  · exact listsF_mem nons toks many (some y) l h.2.2 x e
theorem rowOk_parts {nons toks many : Int} (hn : 1 ≤ nons ∧ nons ≤ 40) (ht : 1 ≤ toks ∧ toks ≤ 4) {x : List Int} (h : rowOk nons toks many x = true) : (x.length : Int) = many ∧ RowIn nons toks x := by
 have hw : wrap64 (nons - 1) = nons - 1 := w64 zz1n zz1n; have hw2 : wrap64 (-toks) = -toks := w64 zz1n zz1n; unfold rowOk at h; simp only [Bool.and_eq_true, decide_eq_true_eq, Bool.not_eq_true', List.any_eq_false] at h; obtain ⟨h1, h2, h3⟩ := h; rw [hw] at h2; refine ⟨h1, ⟨h2.1, zz1n⟩, fun j hj1 hj2 => ?_⟩; have h4 := h3 (rd x j) (by
  have := rd_in (l := x.drop 1) (j := j - 1) (by rw [List.length_drop]; omega); rwa [rd_drop1, show j - 1 + 1 = j by omega] at this)
 unfold symB at h4; rw [hw, hw2] at h4; simp at h4; exact ⟨h4.1, zz1n⟩
theorem goodB_ok {nons toks : Int} {ps os : List (List Int)} {es : List Int} {fs : List (List Int)} (h : goodB nons toks ps os es fs = true) : OkB nons toks ps os es := by
 unfold goodB at h; simp only [Bool.and_eq_true, decide_eq_true_eq] at h; obtain ⟨hn, ht, hr, _, _, hp, ho⟩ := h; have hw : wrap64 (nons - 1) = nons - 1 := w64 zz1n zz1n; rw [hw] at hr; obtain ⟨r1, r2, _⟩ := riseF_parts _ _ _ _ hr; refine ⟨hn, ht, fun x hx => by have := r1 x hx; omega, r2, fun x hx => ?_, fun x hx => ?_⟩
 · obtain ⟨h1, h2⟩ := rowOk_parts hn ht (listsF_mem _ _ _ _ _ hp x hx); exact ⟨zz1n, h2⟩
 · obtain ⟨h1, h2⟩ := rowOk_parts hn ht (listsF_mem _ _ _ _ _ ho x hx); exact ⟨zz1n, h2⟩
inductive NulR (es : List Int) (rows : List (List Int)) : Int → Prop
 | base {x : Int} : x ∈ es → NulR es rows x
 | step {l : List Int} : l ∈ rows → (∀ j : Nat, 1 ≤ j → j < l.length → 0 ≤ rd l j) → (∀ j : Nat, 1 ≤ j → j < l.length → NulR es rows (rd l j)) → NulR es rows (rd l 0)
theorem NulR.least {es : List Int} {rows : List (List Int)} {T : Int → Prop} (h : ∀ x, x ∈ es → T x) (hc : ∀ l, l ∈ rows → (∀ j : Nat, 1 ≤ j → j < l.length → 0 ≤ rd l j ∧ T (rd l j)) → T (rd l 0)) {x : Int} (hx : NulR es rows x) : T x := by
 induction hx with
 | base h1 => exact h _ h1
 | step h1 h2 _ ih => exact hc _ h1 fun j a b => ⟨h2 j a b, ih j a b⟩
def cntN (s : List Bool) : Nat := s.count false
theorem cntN_set (s : List Bool) (i : Nat) (hi : i < s.length) (h : s.getD i false = false) : cntN (s.set i true) + 1 = cntN s := by
 unfold cntN
 induction s generalizing i with
 | nil => simp at hi
 | cons b s ih =>
  cases i with
  | zero =>
   have hb : b = false := by simpa using h
   subst hb; simp [List.count_cons]
  | succ i =>
   have := ih i (by simpa using hi) (by simpa using h); simp only [List.set_cons_succ, List.count_cons]; omega
def nulQ (s : List Bool) (x : Int) : Bool := decide (x < 0) || !s.getD x.toNat false
structure NulI (n : Nat) (es : List Int) (rows : List (List Int)) (s : List Bool) : Prop where
 len : s.length = n
 lo : ∀ x, x ∈ es → s.getD x.toNat false = true
 hi : ∀ i : Nat, i < n → s.getD i false = true → NulR es rows i
theorem getD_set_true {s : List Bool} {i j : Nat} (hi : i < s.length) : (s.set i true).getD j false = (if j = i then true else s.getD j false) := by
 rw [List.getD_eq_getElem?_getD, List.getD_eq_getElem?_getD, List.getElem?_set]; by_cases c : i = j
 · subst c; rw [if_pos rfl, if_pos hi, if_pos rfl]; rfl
 · rw [if_neg c, if_neg (fun e => c e.symm)]
theorem nulQ_all {s : List Bool} {l : List Int} : (l.drop 1).any (nulQ s) = false ↔ ∀ j : Nat, 1 ≤ j → j < l.length → 0 ≤ rd l j ∧ s.getD (rd l j).toNat false = true := by
 rw [List.any_eq_false]; constructor
 · intro h j h1 h2; have := h (rd l j) (by
    have := rd_in (l := l.drop 1) (j := j - 1) (by rw [List.length_drop]; omega); rwa [rd_drop1, show j - 1 + 1 = j by omega] at this)
   unfold nulQ at this; simp at this; exact ⟨this.1, by simpa using this.2⟩
 · intro h x hx; obtain ⟨j, hj, rfl⟩ := in_rd hx; rw [List.length_drop] at hj; rw [rd_drop1]; obtain ⟨h1, h2⟩ := h (j + 1) zz1n zz1n; unfold nulQ; rw [h2, decide_eq_false zz1n]; decide
theorem nulI_set {n : Nat} {es : List Int} {rows : List (List Int)} {s : List Bool} (h : NulI n es rows s) {l : List Int} (hl : l ∈ rows) (h0 : 0 ≤ rd l 0 ∧ rd l 0 < n) (hb : ∀ j : Nat, 1 ≤ j → j < l.length → rd l j < n) (hq : (l.drop 1).any (nulQ s) = false) : NulI n es rows (s.set (rd l 0).toNat true) := by
 have hlen := h.len; refine ⟨by rw [List.length_set]; exact h.len, fun x hx => ?_, fun i hi hs => ?_⟩
 · rw [getD_set_true zz1n, h.lo x hx]; split <;> rfl
 · rw [getD_set_true zz1n] at hs; by_cases c : i = (rd l 0).toNat
   · subst c; have hq' := nulQ_all.1 hq; rw [show (((rd l 0).toNat : Nat) : Int) = rd l 0 by omega]; refine .step hl (fun j a b => (hq' j a b).1) (fun j a b => ?_); have h5 := hq' j a b; have h6 := hb j a b; have := h.hi (rd l j).toNat zz1n h5.2; rwa [show (((rd l j).toNat : Nat) : Int) = rd l j by omega] at this
   · rw [if_neg c] at hs; exact h.hi i hi hs
def rowDone (s : List Bool) (l : List Int) : Prop := s.getD (rd l 0).toNat false = true ∨ (l.drop 1).any (nulQ s) = true
theorem nulI_mem {n : Nat} {es : List Int} {rows : List (List Int)} {s : List Bool} (h : NulI n es rows s) (he : ∀ x, x ∈ es → 0 ≤ x) (hr : ∀ l, l ∈ rows → 0 ≤ rd l 0) (hd : ∀ l, l ∈ rows → rowDone s l) (i : Nat) (hi : i < n) : s.getD i false = true ↔ NulR es rows i := by
 refine ⟨h.hi i hi, fun hx => ?_⟩; have : (0 : Int) ≤ (i : Int) ∧ s.getD ((i : Int)).toNat false = true := hx.least (T := fun x => 0 ≤ x ∧ s.getD x.toNat false = true) (fun x hx => ⟨he x hx, h.lo x hx⟩) (fun l hl hj => ⟨hr l hl, (hd l hl).elim id (fun hq => by rw [(nulQ_all (s := s) (l := l)).2 fun j a b => (hj j a b).2] at hq; cases hq)⟩); rw [Int.toNat_natCast] at this; exact this.2
theorem nulI_ext {n : Nat} {es : List Int} {rows : List (List Int)} {s t : List Bool} (h : NulI n es rows s) (k : NulI n es rows t) (he : ∀ x, x ∈ es → 0 ≤ x) (hr : ∀ l, l ∈ rows → 0 ≤ rd l 0) (hd : ∀ l, l ∈ rows → rowDone s l) (kd : ∀ l, l ∈ rows → rowDone t l) : s = t := by
 have hl := h.len; have kl := k.len; apply List.ext_getElem?; intro i; by_cases hi : i < n
 · have key : s.getD i false = t.getD i false := by
    rw [Bool.eq_iff_iff, nulI_mem h he hr hd i hi, nulI_mem k he hr kd i hi]
   rw [List.getD_eq_getElem?_getD, List.getD_eq_getElem?_getD, List.getElem?_eq_getElem zz1n, List.getElem?_eq_getElem zz1n] at key; rw [List.getElem?_eq_getElem zz1n, List.getElem?_eq_getElem zz1n]; exact congrArg some key
 · rw [List.getElem?_eq_none zz1n, List.getElem?_eq_none zz1n]
def stepN (s : List Bool) (l : List Int) : List Bool := if (l.drop 1).any (nulQ s) = true then s else s.set (rd l 0).toNat true
def passN (rows : List (List Int)) (s : List Bool) : List Bool := rows.foldl stepN s
def iterN (rows : List (List Int)) : Nat → List Bool → List Bool
 | 0, s => s
 | k + 1, s => iterN rows k (passN rows s)
def nulV (n : Nat) (es : List Int) (rows : List (List Int)) : List Bool := iterN rows (n + 1) ((List.range n).map fun i : Nat => decide ((i : Int) ∈ es))
def rowsIn (n : Nat) (rows : List (List Int)) : Prop := ∀ l, l ∈ rows → (0 ≤ rd l 0 ∧ rd l 0 < n) ∧ ∀ j : Nat, 1 ≤ j → j < l.length → rd l j < n
theorem stepN_ok {n : Nat} {es : List Int} {rows : List (List Int)} (hr : rowsIn n rows) {s : List Bool} (h : NulI n es rows s) {l : List Int} (hl : l ∈ rows) :
 NulI n es rows (stepN s l) ∧ cntN (stepN s l) ≤ cntN s ∧ (cntN (stepN s l) = cntN s → stepN s l = s ∧ rowDone s l) := by
 unfold stepN; cases hq : (l.drop 1).any (nulQ s) with
 | true => exact ⟨h, Nat.le_refl _, fun _ => ⟨rfl, .inr hq⟩⟩
 | false =>
  rw [if_neg zz1m]; have h0 := (hr l hl).1; have hlen := h.len; refine ⟨nulI_set h hl h0 (hr l hl).2 hq, ?_⟩; cases hv : s.getD (rd l 0).toNat false with
  | true =>
   have e : s.set (rd l 0).toNat true = s := by
    apply List.ext_getElem?; intro i; rw [List.getElem?_set]; by_cases c : (rd l 0).toNat = i
    · subst c; rw [if_pos rfl, if_pos zz1n, List.getElem?_eq_getElem zz1n]; rw [List.getD_eq_getElem?_getD, List.getElem?_eq_getElem zz1n] at hv; exact congrArg some hv.symm
    · rw [if_neg c]
   rw [e]; exact ⟨Nat.le_refl _, fun _ => ⟨rfl, .inl hv⟩⟩
  | false =>
   have := cntN_set s (rd l 0).toNat zz1n hv; exact ⟨zz1n, fun h => by omega⟩
theorem passN_ok {n : Nat} {es : List Int} {rows : List (List Int)} (hr : rowsIn n rows) : ∀ (ls : List (List Int)), (∀ l, l ∈ ls → l ∈ rows) → ∀ s : List Bool, NulI n es rows s →
 NulI n es rows (ls.foldl stepN s) ∧ cntN (ls.foldl stepN s) ≤ cntN s ∧ (cntN (ls.foldl stepN s) = cntN s → ls.foldl stepN s = s ∧ ∀ l, l ∈ ls → rowDone s l) := by
 intro ls
 induction ls with
 | nil => intro _ s h; exact ⟨h, Nat.le_refl _, fun _ => ⟨rfl, fun l hl => by cases hl⟩⟩
 | cons l ls ih =>
  intro hs s h; obtain ⟨a1, a2, a3⟩ := stepN_ok hr h (hs l List.mem_cons_self); obtain ⟨b1, b2, b3⟩ := ih (fun x hx => hs x (List.mem_cons_of_mem _ hx)) (stepN s l) a1; refine ⟨b1, Nat.le_trans b2 a2, fun e => ?_⟩; have e1 : cntN (stepN s l) = cntN s := by simp only [List.foldl_cons] at e; omega
  obtain ⟨c1, c2⟩ := a3 e1; rw [c1] at b1 b2 b3; simp only [List.foldl_cons, c1] at e ⊢; obtain ⟨d1, d2⟩ := b3 e; exact ⟨d1, fun x hx => (List.mem_cons.1 hx).elim (fun e => by rw [e]; exact c2) (d2 x)⟩
theorem iterN_ok {n : Nat} {es : List Int} {rows : List (List Int)} (hr : rowsIn n rows) (k : Nat) : ∀ s : List Bool, NulI n es rows s → cntN s < k → NulI n es rows (iterN rows k s) ∧ ∀ l, l ∈ rows → rowDone (iterN rows k s) l := by
 induction k with
 | zero => intro s _ h; omega
 | succ k ih =>
  intro s h hc; obtain ⟨a1, a2, a3⟩ := passN_ok hr rows (fun _ h => h) s h; by_cases e : cntN (passN rows s) = cntN s
  · obtain ⟨b1, b2⟩ := a3 e; have fix : ∀ m, iterN rows m s = s := by
     intro m
     induction m with
     | zero => rfl
     | succ m ihm => show iterN rows m (passN rows s) = s; rw [show passN rows s = s from b1]; exact ihm
    rw [fix]; exact ⟨h, b2⟩
  · show NulI n es rows (iterN rows k (passN rows s)) ∧ _; have a4 : cntN (passN rows s) ≤ cntN s := a2; exact ih _ a1 zz1n
theorem cntN_le (s : List Bool) : cntN s ≤ s.length := List.count_le_length
theorem nulV_ok {n : Nat} {es : List Int} {rows : List (List Int)} (hr : rowsIn n rows) (he : ∀ x, x ∈ es → 0 ≤ x ∧ x < n) : NulI n es rows (nulV n es rows) ∧ ∀ l, l ∈ rows → rowDone (nulV n es rows) l := by
 have hl : ((List.range n).map fun i : Nat => decide ((i : Int) ∈ es)).length = n := by rw [List.length_map, List.length_range]
 have hg : ∀ i : Nat, i < n → ((List.range n).map fun i : Nat => decide ((i : Int) ∈ es)).getD i false = decide ((i : Int) ∈ es) := fun i hi => by
  rw [List.getD_eq_getElem?_getD, List.getElem?_map, List.getElem?_range hi]; rfl
 refine iterN_ok hr (n + 1) _ ⟨hl, fun x hx => ?_, fun i hi h => ?_⟩ (Nat.lt_succ_of_le (by have := cntN_le ((List.range n).map fun i : Nat => decide ((i : Int) ∈ es)); rw [hl] at this; exact this))
 · have := he x hx; rw [hg x.toNat zz1n]; exact decide_eq_true (by rw [show ((x.toNat : Nat) : Int) = x by omega]; exact hx)
 · rw [hg i hi] at h; exact .base (of_decide_eq_true h)
theorem nulV_len {n : Nat} {es : List Int} {rows : List (List Int)} (hr : rowsIn n rows) (he : ∀ x, x ∈ es → 0 ≤ x ∧ x < n) : (nulV n es rows).length = n := (nulV_ok hr he).1.len
theorem nulV_at {n : Nat} {es : List Int} {rows : List (List Int)} (hr : rowsIn n rows) (he : ∀ x, x ∈ es → 0 ≤ x ∧ x < n) {i : Nat} (hi : i < n) : (nulV n es rows).getD i false = true ↔ NulR es rows i :=
 nulI_mem (nulV_ok hr he).1 (fun x hx => (he x hx).1) (fun l hl => (hr l hl).1.1) (nulV_ok hr he).2 i hi
theorem nulI_end {n : Nat} {es : List Int} {rows : List (List Int)} {s : List Bool} (h : NulI n es rows s) (hr : rowsIn n rows) (he : ∀ x, x ∈ es → 0 ≤ x ∧ x < n) (hd : ∀ l, l ∈ rows → rowDone s l) : s = nulV n es rows :=
 nulI_ext h (nulV_ok hr he).1 (fun x hx => (he x hx).1) (fun l hl => (hr l hl).1.1) hd (nulV_ok hr he).2
theorem okB_rows {n : Nat} {toks : Int} {ps os : List (List Int)} {es : List Int} (h : OkB (n : Int) toks ps os es) : rowsIn n (ps ++ os) := fun l hl => (List.mem_append.1 hl).elim (fun hl => ⟨(h.p l hl).2.1, fun j a b => ((h.p l hl).2.2 j a b).2⟩) (fun hl => ⟨(h.o l hl).2.1, fun j a b => ((h.o l hl).2.2 j a b).2⟩)
end Go.Proofs.Ytkocahlifffgjaa.P
namespace Go.Proofs
open Go.Shelf
def Try.srt_ren : Go.Shelf.Ren := ⟨fun | 5 => 98 | 8 => 118 | 7 => 119 | 19 => 135 | 20 => 136 | 10 => 137 | 11 => 138 | 12 => 139 | 13 => 140 | 14 => 141 | 15 => 142 | 16 => 143 | 17 => 144 | 18 => 145 | 30 => 152 | 31 => 148 | 32 => 149 | 33 => 153 | 34 => 154 | 35 => 126 | 40 => 156 | n => n, fun | 23 => 23 | 25 => 3 | 3 => 3 | 32 => 114 | 22 => 23 | 0 => 0 | 44 => 131 | 46 => 133 | 4 => 4 | 36 => 124 | 35 => 123 | 41 => 128 | 5 => 5 | 9 => 9 | 53 => 140 | 57 => 144 | 63 => 148 | 64 => 149 | n => n, fun | n => n⟩
theorem Try.srt : Go.Proofs.SlLaysM.n5 Try.prog Try.srt_ren := {
 mixed := by kernel_rfl,
 f5 := ⟨Try.f98.name, by decide, Try.func98.trans (congrArg some (by kernel_rfl))⟩,
 f7 := ⟨Try.f119.name, by decide, Try.func119.trans (congrArg some (by kernel_rfl))⟩,
 f8 := Try.func118.trans (congrArg some (by kernel_rfl)),
 f10 := ⟨Try.f137.name, by decide, Try.func137.trans (congrArg some (by kernel_rfl))⟩,
 f11 := ⟨Try.f138.name, by decide, Try.func138.trans (congrArg some (by kernel_rfl))⟩,
 f12 := ⟨Try.f139.name, by decide, Try.func139.trans (congrArg some (by kernel_rfl))⟩,
 f13 := ⟨Try.f140.name, by decide, Try.func140.trans (congrArg some (by kernel_rfl))⟩,
 f14 := ⟨Try.f141.name, by decide, Try.func141.trans (congrArg some (by kernel_rfl))⟩,
 f15 := ⟨Try.f142.name, by decide, Try.func142.trans (congrArg some (by kernel_rfl))⟩,
 f16 := ⟨Try.f143.name, by decide, Try.func143.trans (congrArg some (by kernel_rfl))⟩,
 f17 := ⟨Try.f144.name, by decide, Try.func144.trans (congrArg some (by kernel_rfl))⟩,
 f18 := ⟨Try.f145.name, by decide, Try.func145.trans (congrArg some (by kernel_rfl))⟩,
 f19 := Try.func135.trans (congrArg some (by kernel_rfl)),
 f20 := Try.func136.trans (congrArg some (by kernel_rfl)),
 f30 := ⟨Try.f152.name, by decide, Try.func152.trans (congrArg some (by kernel_rfl))⟩,
 f31 := Try.func148.trans (congrArg some (by kernel_rfl)),
 f32 := Try.func149.trans (congrArg some (by kernel_rfl)),
 f33 := ⟨Try.f153.name, by decide, Try.func153.trans (congrArg some (by kernel_rfl))⟩,
 f34 := ⟨Try.f154.name, by decide, Try.func154.trans (congrArg some (by kernel_rfl))⟩,
 f35 := ⟨Try.f126.name, by decide, Try.func126.trans (congrArg some (by kernel_rfl))⟩,
 f40 := ⟨Try.f156.name, by decide, Try.func156.trans (congrArg some (by kernel_rfl))⟩,
 t0 := Try.underlying0,
 a0 := Try.isAgg0,
 z0 := Try.sizeOf0,
 v0 := Try.zeroValue0,
 t3 := Try.underlying3,
 a3 := Try.isAgg3,
 z3 := Try.sizeOf3,
 v3 := Try.zeroValue3,
 t4 := Try.underlying4,
 a4 := Try.isAgg4,
 z4 := Try.sizeOf4,
 v4 := Try.zeroValue4,
 t5 := Try.underlying5,
 a5 := Try.isAgg5,
 z5 := Try.sizeOf5,
 v5 := Try.zeroValue5,
 t9 := Try.underlying9,
 a9 := Try.isAgg9,
 z9 := Try.sizeOf9,
 v9 := Try.zeroValue9,
 t22 := Try.underlying23,
 a22 := Try.isAgg23,
 z22 := Try.sizeOf23,
 v22 := Try.zeroValue23,
 t23 := Try.underlying23,
 a23 := Try.isAgg23,
 z23 := Try.sizeOf23,
 v23 := Try.zeroValue23,
 t25 := Try.underlying3,
 a25 := Try.isAgg3,
 z25 := Try.sizeOf3,
 v25 := Try.zeroValue3,
 t32 := Try.underlying114,
 a32 := Try.isAgg114,
 z32 := Try.sizeOf114,
 v32 := Try.zeroValue114,
 t35 := Try.underlying123,
 a35 := Try.isAgg123,
 z35 := Try.sizeOf123,
 v35 := Try.zeroValue123,
 t36 := Try.underlying124,
 a36 := Try.isAgg124,
 z36 := Try.sizeOf124,
 v36 := Try.zeroValue124,
 t41 := Try.underlying128,
 a41 := Try.isAgg128,
 z41 := Try.sizeOf128,
 v41 := Try.zeroValue128,
 t44 := Try.underlying131,
 a44 := Try.isAgg131,
 z44 := Try.sizeOf131,
 v44 := Try.zeroValue131,
 t46 := Try.underlying133,
 a46 := Try.isAgg133,
 z46 := Try.sizeOf133,
 v46 := Try.zeroValue133,
 t53 := Try.underlying140,
 a53 := Try.isAgg140,
 z53 := Try.sizeOf140,
 v53 := Try.zeroValue140,
 t57 := Try.underlying144,
 a57 := Try.isAgg144,
 z57 := Try.sizeOf144,
 v57 := Try.zeroValue144,
 t63 := Try.underlying148,
 a63 := Try.isAgg148,
 z63 := Try.sizeOf148,
 v63 := Try.zeroValue148,
 t64 := Try.underlying149,
 a64 := Try.isAgg149,
 z64 := Try.sizeOf149,
 v64 := Try.zeroValue149
 }
def Try.cmpt_ren : Go.Shelf.Ren := ⟨fun | 43 => 100 | n => n, fun | 22 => 23 | 23 => 3 | 3 => 3 | 4 => 4 | 0 => 0 | n => n, fun | n => n⟩
theorem Try.cmpt : Go.Proofs.SlLaysE.n43 Try.prog Try.cmpt_ren := {
 mixed := by kernel_rfl,
 f43 := ⟨Try.f100.name, by decide, Try.func100.trans (congrArg some (by kernel_rfl))⟩,
 t0 := Try.underlying0,
 a0 := Try.isAgg0,
 z0 := Try.sizeOf0,
 v0 := Try.zeroValue0,
 t3 := Try.underlying3,
 a3 := Try.isAgg3,
 z3 := Try.sizeOf3,
 v3 := Try.zeroValue3,
 t4 := Try.underlying4,
 a4 := Try.isAgg4,
 z4 := Try.sizeOf4,
 v4 := Try.zeroValue4,
 t22 := Try.underlying23,
 a22 := Try.isAgg23,
 z22 := Try.sizeOf23,
 v22 := Try.zeroValue23,
 a23 := Try.isAgg3,
 z23 := Try.sizeOf3
 }
def Try.srtf_ren : Go.Shelf.Ren := ⟨fun | 6 => 95 | 15 => 118 | 14 => 117 | 28 => 135 | 29 => 136 | 20 => 127 | 21 => 128 | 22 => 129 | 23 => 130 | 24 => 131 | 25 => 132 | 26 => 133 | 27 => 134 | 46 => 147 | 47 => 148 | 48 => 149 | 49 => 150 | 50 => 151 | 57 => 155 | n => n, fun | 22 => 22 | 24 => 23 | 25 => 97 | 3 => 3 | 39 => 114 | 0 => 0 | 53 => 131 | 55 => 133 | 4 => 4 | 46 => 124 | 45 => 123 | 50 => 128 | 5 => 5 | 9 => 9 | 66 => 140 | 70 => 144 | 76 => 148 | 77 => 149 | n => n, fun | n => n⟩
theorem Try.srtf : Go.Proofs.SlLaysF.n6 Try.prog Try.srtf_ren := {
 mixed := by kernel_rfl,
 f6 := ⟨Try.f95.name, by decide, Try.func95.trans (congrArg some (by kernel_rfl))⟩,
 f14 := ⟨Try.f117.name, by decide, Try.func117.trans (congrArg some (by kernel_rfl))⟩,
 f15 := Try.func118.trans (congrArg some (by kernel_rfl)),
 f20 := ⟨Try.f127.name, by decide, Try.func127.trans (congrArg some (by kernel_rfl))⟩,
 f21 := ⟨Try.f128.name, by decide, Try.func128.trans (congrArg some (by kernel_rfl))⟩,
 f22 := ⟨Try.f129.name, by decide, Try.func129.trans (congrArg some (by kernel_rfl))⟩,
 f23 := ⟨Try.f130.name, by decide, Try.func130.trans (congrArg some (by kernel_rfl))⟩,
 f24 := ⟨Try.f131.name, by decide, Try.func131.trans (congrArg some (by kernel_rfl))⟩,
 f25 := ⟨Try.f132.name, by decide, Try.func132.trans (congrArg some (by kernel_rfl))⟩,
 f26 := ⟨Try.f133.name, by decide, Try.func133.trans (congrArg some (by kernel_rfl))⟩,
 f27 := ⟨Try.f134.name, by decide, Try.func134.trans (congrArg some (by kernel_rfl))⟩,
 f28 := Try.func135.trans (congrArg some (by kernel_rfl)),
 f29 := Try.func136.trans (congrArg some (by kernel_rfl)),
 f46 := ⟨Try.f147.name, by decide, Try.func147.trans (congrArg some (by kernel_rfl))⟩,
 f47 := Try.func148.trans (congrArg some (by kernel_rfl)),
 f48 := Try.func149.trans (congrArg some (by kernel_rfl)),
 f49 := ⟨Try.f150.name, by decide, Try.func150.trans (congrArg some (by kernel_rfl))⟩,
 f50 := ⟨Try.f151.name, by decide, Try.func151.trans (congrArg some (by kernel_rfl))⟩,
 f57 := ⟨Try.f155.name, by decide, Try.func155.trans (congrArg some (by kernel_rfl))⟩,
 t0 := Try.underlying0,
 a0 := Try.isAgg0,
 z0 := Try.sizeOf0,
 v0 := Try.zeroValue0,
 t3 := Try.underlying3,
 a3 := Try.isAgg3,
 z3 := Try.sizeOf3,
 v3 := Try.zeroValue3,
 t4 := Try.underlying4,
 a4 := Try.isAgg4,
 z4 := Try.sizeOf4,
 v4 := Try.zeroValue4,
 t5 := Try.underlying5,
 a5 := Try.isAgg5,
 z5 := Try.sizeOf5,
 v5 := Try.zeroValue5,
 t9 := Try.underlying9,
 a9 := Try.isAgg9,
 z9 := Try.sizeOf9,
 v9 := Try.zeroValue9,
 t22 := Try.underlying22,
 a22 := Try.isAgg22,
 z22 := Try.sizeOf22,
 v22 := Try.zeroValue22,
 a24 := Try.isAgg23,
 z24 := Try.sizeOf23,
 t25 := Try.underlying97,
 a25 := Try.isAgg97,
 z25 := Try.sizeOf97,
 v25 := Try.zeroValue97,
 t39 := Try.underlying114,
 a39 := Try.isAgg114,
 z39 := Try.sizeOf114,
 v39 := Try.zeroValue114,
 t45 := Try.underlying123,
 a45 := Try.isAgg123,
 z45 := Try.sizeOf123,
 v45 := Try.zeroValue123,
 t46 := Try.underlying124,
 a46 := Try.isAgg124,
 z46 := Try.sizeOf124,
 v46 := Try.zeroValue124,
 t50 := Try.underlying128,
 a50 := Try.isAgg128,
 z50 := Try.sizeOf128,
 v50 := Try.zeroValue128,
 t53 := Try.underlying131,
 a53 := Try.isAgg131,
 z53 := Try.sizeOf131,
 v53 := Try.zeroValue131,
 t55 := Try.underlying133,
 a55 := Try.isAgg133,
 z55 := Try.sizeOf133,
 v55 := Try.zeroValue133,
 t66 := Try.underlying140,
 a66 := Try.isAgg140,
 z66 := Try.sizeOf140,
 v66 := Try.zeroValue140,
 t70 := Try.underlying144,
 a70 := Try.isAgg144,
 z70 := Try.sizeOf144,
 v70 := Try.zeroValue144,
 t76 := Try.underlying148,
 a76 := Try.isAgg148,
 z76 := Try.sizeOf148,
 v76 := Try.zeroValue148,
 t77 := Try.underlying149,
 a77 := Try.isAgg149,
 z77 := Try.sizeOf149,
 v77 := Try.zeroValue149
 }
end Go.Proofs
namespace Go.Proofs.Ytkocahlifffgjaa.P
open Go.RowKit Go.Proofs.YtkocahlifffgjaaW.PrintWords Go.Proofs.YtkocahlifffgjaaW.PrintLast Go.Proofs.YtkocahlifffgjaaW.PrintMore
set_option linter.unusedVariables false
set_option linter.unusedSimpArgs false
theorem reps_ints {W : World} {base : Nat} {ok : Nat → Prop} : ∀ (zs : List Int), Reps ((Kd.int .i64).M W base ok) 1 zs (zs.map (Value.int .i64))
 | zs => ⟨zz1o, fun j x hx => by
  have h1 : (zs.map (Value.int .i64))[j]? = some (.int .i64 x) := by rw [List.getElem?_map, hx]; rfl
  rw [Nat.mul_one]; obtain ⟨h2, h3⟩ := List.getElem?_eq_some_iff.1 h1; rw [List.drop_eq_getElem_cons h2, h3]; rfl⟩
theorem ints_of {W : World} {base : Nat} {ok : Nat → Prop} {zs : List Int} {cs : List Value} (h : Reps ((Kd.int .i64).M W base ok) 1 zs cs) : cs = zs.map (Value.int .i64) := by
 obtain ⟨h1, h2⟩ := h; apply List.ext_getElem?; intro j; rw [List.getElem?_map]; cases hx : zs[j]? with
 | none =>
  have h3 := List.getElem?_eq_none_iff.1 hx; rw [List.getElem?_eq_none_iff.2 (by rw [h1, Nat.mul_one]; exact h3)]; rfl
 | some x =>
  have h3 := h2 j x hx; rw [Nat.mul_one] at h3; have h4 : (cs.drop j).take 1 = [.int .i64 x] := h3; have h5 := congrArg (fun l => l[0]?) h4; simp only [List.getElem?_take_of_lt (show 0 < 1 by decide), List.getElem?_drop, Nat.add_zero] at h5; rw [h5]; rfl
theorem R_ints {W : World} {base e : Nat} {ok : Nat → Prop} {v : Value} {zs : List Int} (h : Kd.R (Kd.int .i64) e W base ok v zs) :
 (v = .slice none 0 0 ∧ zs = []) ∨ ∃ (g cap : Nat) (cur : Array Value), v = .slice (some ⟨g, 0, none⟩) zs.length cap ∧ ok g ∧ base ≤ g ∧ W.heap[g]? = some (.cells cur e (0, 0)) ∧ zs.length ≤ cap ∧ cap ≤ maxLen ∧ cur.size = cap * 1 ∧ cur.toList.take zs.length = zs.map (Value.int .i64) := by
 obtain ⟨hok, inner, ⟨hlen, hrow⟩, hr⟩ := h; obtain rfl := ints_of hr; rcases hrow with ⟨hv, h0⟩ | ⟨g, cap, cur, hv, hbg, hh, hnc, hcm, hcs, ht⟩
 · refine .inl ⟨hv, ?_⟩; exact List.length_eq_zero_iff.1 h0
 · exact .inr ⟨g, cap, cur, hv, hok g (by rw [hv]; rfl), hbg, hh, hnc, hcm, hcs, by rw [show zs.length * (Kd.int .i64).sz = zs.length from Nat.mul_one _] at ht; exact ht⟩
theorem R_of_block {W : World} {base e g cap : Nat} {ok : Nat → Prop} {zs : List Int} {cur : Array Value} (hok : ok g) (hb : base ≤ g) (hh : W.heap[g]? = some (.cells cur e (0, 0))) (hn : zs.length ≤ cap) (hc : cap ≤ maxLen) (hs : cur.size = cap * 1) (ht : cur.toList.take zs.length = zs.map (Value.int .i64)) :
 Kd.R (Kd.int .i64) e W base ok (.slice (some ⟨g, 0, none⟩) zs.length cap) zs :=
 ⟨fun k hk => by have : g = k := by simpa [Value.ownBlock] using hk
                 rw [← this]; exact hok, zs.map (Value.int .i64), ⟨by rw [List.length_map]; exact (Nat.mul_one _).symm, .inr ⟨g, cap, cur, rfl, hb, hh, hn, hc, hs, by rw [show zs.length * (Kd.int .i64).sz = zs.length from Nat.mul_one _]; exact ht⟩⟩, reps_ints zs⟩
theorem mergeI_len (l : List Int) : (l.mergeSort fun x y => decide (x ≤ y)).length = l.length := List.length_mergeSort l
theorem below_sorted {b : Nat} {w W : World} {g n : Nat} {os : Array Obj} (d : Array Int) (h : Below b w W) (hg : b ≤ g) (hb : b ≤ W.heap.size) : Below b w (Go.Sort.grow (Go.Sort.putRow (Value.int .i64) (Go.Sort.ahead W n) g 0 d) os) := by
 have k := Go.grownBy_sortedI (w := W) (g := g) (n := n) (os := os) d; exact ⟨k.os.trans h.os, k.tape.trans h.tape, k.output.trans h.output, Nat.le_trans h.size k.size, fun i hi => (k.block i (Nat.lt_of_lt_of_le hi hb) (fun e => by injection e with e; omega)).trans (h.block i hi)⟩
theorem kept_sorted {W : World} {g n : Nat} {os : Array Obj} {P : Nat → Prop} (d : Array Int) (hg : P g) : Kept W (Go.Sort.grow (Go.Sort.putRow (Value.int .i64) (Go.Sort.ahead W n) g 0 d) os) P := by
 have k := Go.grownBy_sortedI (w := W) (g := g) (n := n) (os := os) d; exact ⟨k.size, fun i hi hn => k.block i hi (fun e => hn (by injection e with e; rw [e]; exact hg))⟩
def slices_Sort_int_int.f (l0 : List Int) : Option (List Int) := if l0.length < 4611686018427387904 then some (l0.mergeSort fun x y => decide (x ≤ y)) else none
theorem slices_Sort_int_int.calls (P0_ : Nat → Prop) (u9000_ : Value) (l0 : List Int) (r : List Int) (w0 w : World) (hB : Below w0.heap.size w0 w) (ho0 : Kd.R (Kd.int .i64) 3 w w0.heap.size P0_ u9000_ l0) (h : slices_Sort_int_int.f l0 = some r) :
 Calls Try.prog 98 #[u9000_] w fun e w' => e = .returned (.tuple #[]) ∧ Kd.R (Kd.int .i64) 3 w' w0.heap.size (fun k_ => (P0_ k_ ∨ w.heap.size ≤ k_)) u9000_ r ∧ Below w0.heap.size w0 w' ∧ Kept w w' (fun k_ => P0_ k_) := by
 unfold slices_Sort_int_int.f at h; by_cases hl : l0.length < 4611686018427387904
 · rw [if_pos hl] at h; obtain rfl := Option.some.inj h; rcases R_ints ho0 with ⟨rfl, rfl⟩ | ⟨g, cap, cur, rfl, hok, hbg, hh, hn, hc, hs, ht⟩
   · refine (AnyM.slices_Sort_int_none Try.srt none 0 w).mono fun e w' ⟨he, hw⟩ => ?_
     subst hw; exact ⟨he, by rw [List.mergeSort_nil]; exact Kd.R_nil _ _ _ _ _, hB, Kept.refl _ _⟩
   · have hg : g < w.heap.size := (Array.getElem?_eq_some_iff.1 hh).1; refine (AnyM.slices_Sort_int Try.srt g 0 cap l0 w (Go.holds_of_blockI hh ht) hg hl).mono fun e w' ⟨he, n, os, hw⟩ => ?_
     have hl2 := mergeI_len l0; subst hw; refine ⟨he, ?_, below_sorted _ hB hbg hB.size, kept_sorted _ hok⟩; have hh2 := Go.heap_sortedI (n := n) (os := os) (l0.mergeSort fun x y => decide (x ≤ y)).toArray hh; have R := R_of_block (cap := cap) (ok := fun k_ => (P0_ k_ ∨ w.heap.size ≤ k_)) (.inl hok) hbg hh2 (by rw [hl2]; exact hn) hc (by simp [Go.Sort.putCells, hs]) (Go.take_putCellsI cur _ (by rw [hl2]; omega)); rw [hl2] at R; exact R
 · rw [if_neg hl] at h; cases h
def slices_Compact_int_int.f (l0 : List Int) : Option (List Int) := if l0.length < 4611686018427387904 then some (Go.Lib.compactUpTo l0.toArray l0.length) else none
theorem compact_le (l : List Int) : (Go.Lib.compactUpTo l.toArray l.length).length ≤ l.length := by
 unfold Go.Lib.compactUpTo; rw [List.length_map]; exact Nat.le_trans (List.length_filter_le _ _) zz1o
theorem slices_Compact_int_int.calls (P0_ : Nat → Prop) (u9000_ : Value) (l0 : List Int) (r : List Int) (w0 w : World) (hB : Below w0.heap.size w0 w) (ho0 : Kd.R (Kd.int .i64) 3 w w0.heap.size P0_ u9000_ l0) (h : slices_Compact_int_int.f l0 = some r) :
 Calls Try.prog 100 #[u9000_] w fun e w' => ∃ v0_ : Value, e = .returned (v0_) ∧ Kd.R (Kd.int .i64) 3 w' w0.heap.size (fun k_ => (P0_ k_ ∨ w.heap.size ≤ k_)) v0_ r ∧ Below w0.heap.size w0 w' ∧ Kept w w' (fun k_ => P0_ k_) := by
 unfold slices_Compact_int_int.f at h; by_cases hl : l0.length < 4611686018427387904
 · rw [if_pos hl] at h; obtain rfl := Option.some.inj h; rcases R_ints ho0 with ⟨rfl, rfl⟩ | ⟨g, cap, cur, rfl, hok, hbg, hh, hn, hc, hs, ht⟩
   · go_enter Try.func100, Try.ntmps100; go_wp2; go_ret; exact ⟨_, rfl, Kd.R_nil _ _ _ _ _, hB, Kept.refl _ _⟩
   · have hg : g < w.heap.size := (Array.getElem?_eq_some_iff.1 hh).1; refine (AnyE.slices_Compact Try.cmpt (Value.int .i64) (fun _ => rfl) (EqlAt.intD _ _ .i64) (NeqAt.intD _ _ .i64) 0 Try.zeroValue3 g 0 cap l0.toArray w (Go.holds_of_blockI hh ht) (by simp; omega) (by simpa using hn)).mono fun e w' ⟨he, q, hw⟩ => ?_
     have hl2 := compact_le l0; have hsz : l0.toArray.size = l0.length := by simp
     rw [hsz] at he hw; rw [← Go.Sort.grow_empty (Go.Sort.putRow _ _ _ _ _)] at hw; subst hw; refine ⟨_, he, ?_, below_sorted _ hB hbg hB.size, kept_sorted _ hok⟩; have hh2 := Go.heap_sortedI (n := q) (os := #[]) (Go.Lib.compactUpTo l0.toArray l0.length ++ List.replicate (l0.length - (Go.Lib.compactUpTo l0.toArray l0.length).length) 0).toArray hh; refine R_of_block (cap := cap) (ok := fun k_ => (P0_ k_ ∨ w.heap.size ≤ k_)) (.inl hok) hbg hh2 zz1n hc (by simp [Go.Sort.putCells, hs]) ?_; have h3 := Go.take_putCellsI cur (Go.Lib.compactUpTo l0.toArray l0.length ++ List.replicate (l0.length - (Go.Lib.compactUpTo l0.toArray l0.length).length) 0) (by rw [List.length_append, List.length_replicate]; omega); have h4 := congrArg (fun l => l.take (Go.Lib.compactUpTo l0.toArray l0.length).length) h3; simp only [List.take_take, List.length_append] at h4; rw [Nat.min_eq_left zz1n] at h4; rw [h4, List.map_append, List.take_append_of_le_length zz1o, List.take_of_length_le zz1o]
 · rw [if_neg hl] at h; cases h
end Go.Proofs.Ytkocahlifffgjaa.P
namespace Go.Proofs.Ytkocahlifffgjaa.P
open Go.RowKit Go.Proofs.YtkocahlifffgjaaW.PrintWords Go.Proofs.YtkocahlifffgjaaW.PrintLast Go.Proofs.YtkocahlifffgjaaW.PrintMore
attribute [local go_sem] max2_int min2_int max_two min_two max_three min_three max_four min_four
set_option linter.unusedVariables false
set_option linter.unusedSimpArgs false
def spec_l1Put.l0 : Nat → List Int → Int → Int → Option (List Int)
 | 0, _, _, _ => none
 | k + 1, x0, x1, x5 => if x5 < (x0.length : Int) then (if 0 ≤ x5 then (if (rd x0 x5) < x1 then (spec_l1Put.l0 k x0 x1 (wrap64 (x5 + 1))) else (if (rd x0 x5) = x1 then (some x0) else ((some (([] : List Int) : List Int)).bind fun gx => (if x5 ≤ (x0.length : Int) then ((some (x0.take (x5 : Int).toNat : List Int)).bind fun fy => (if gx.length + fy.length < 17592186044416 then ((some (gx ++ fy : List Int)).bind fun gQ => (if gQ.length < 17592186044416 then ((some (gQ ++ [x1] : List Int)).bind fun cv => ((some (x0.drop (x5 : Int).toNat : List Int)).bind fun cw => (if cv.length + cw.length < 17592186044416 then (some (cv ++ cw)) else (none)))) else (none))) else (none))) else (none))))) else (none)) else ((some (([] : List Int) : List Int)).bind fun i6 => (if 0 ≤ x5 then (if x5 ≤ (x0.length : Int) then ((some (x0.take (x5 : Int).toNat : List Int)).bind fun fz => (if i6.length + fz.length < 17592186044416 then ((some (i6 ++ fz : List Int)).bind fun ga => (if ga.length < 17592186044416 then ((some (ga ++ [x1] : List Int)).bind fun dJ => ((some (x0.drop (x5 : Int).toNat : List Int)).bind fun cA => (if dJ.length + cA.length < 17592186044416 then (some (dJ ++ cA)) else (none)))) else (none))) else (none))) else (none)) else (none)))
def spec_l1Put.f (k : Nat) (l0 : List Int) (a1 : Int) : Option (List Int) := spec_l1Put.l0 k l0 a1 0
set_option maxHeartbeats 8000000 in
set_option maxRecDepth 100000 in
theorem spec_l1Put.calls (k : Nat) (P0_ : Nat → Prop) (i7 : Value) (l0 : List Int) (a1 : Int) (r : List Int) (w0 w : World) (hB : Below w0.heap.size w0 w) (b7 : Kd.R (Kd.int .i64) 3 w w0.heap.size P0_ i7 l0) (h : spec_l1Put.f k l0 a1 = some r) :
 Calls Try.prog 66 #[i7, .int .i64 a1] w fun e w' => ∃ eQ : Value, e = .returned (eQ) ∧ Kd.R (Kd.int .i64) 3 w' w0.heap.size (fun k_ => (P0_ k_ ∨ w.heap.size ≤ k_)) eQ r ∧ Below w0.heap.size w0 w' ∧ Kept w w' (fun k_ => P0_ k_) := by
 have rJ := zA (show Kd.R (Kd.int .i64) 3 w w0.heap.size (fun k_ => (P0_ k_ ∨ w.heap.size ≤ k_)) i7 l0 from Kd.R_mono b7 (fun k_ hk => (.inl hk))); have HK := zA (Kept.refl w (fun k_ => P0_ k_)); have HW0 := zA hB.size; have HB := zA hB; clear hB; have H : (spec_l1Put.l0 k l0 a1 0) = some r := h; clear h; have H' := zA H; clear H; go_enter Try.func66, Try.ntmps66; go_wp2; go_loopg [5] k (fun kq v5 w' => ∃ (ao : Int), v5 = .int .i64 ao ∧ Aside0 (spec_l1Put.l0 kq l0 a1 ao = some r) ∧ Aside0 (kq ≤ k) ∧ Aside0 (Kd.R (Kd.int .i64) 3 w' w0.heap.size (fun k_ => (P0_ k_ ∨ w.heap.size ≤ k_)) i7 l0) ∧ Aside0 (Kept w w' (fun k_ => P0_ k_)) ∧ Aside0 (Below w0.heap.size w0 w'))
 case atStart => exact ⟨(0), zz16, H', ⟨Nat.le_refl _⟩, ⟨zz12 rJ⟩, ⟨zz0n HK⟩, ⟨zz0y HB⟩⟩
 case round =>
  clear H'; (try clear p2); obtain ⟨ao, rfl, HA, bM, a9, HK, HB⟩ := hrel; cases gk with
  | zero => exact absurd HA.out (by simp [spec_l1Put.l0])
  | succ k1 =>
   have H := HA.out; clear HA; simp only [spec_l1Put.l0] at H; by_cases c3 : ao < (l0.length : Int)
   · rw [if_pos c3] at H; have cS := decide_eq_true c3; clear c3; replace H := zIn H; obtain ⟨c4, H⟩ := H; have dp : decide (0 ≤ ao) = true := decide_eq_true c4; clear c4; by_cases c5 : (rd l0 ao) < a1
     · rw [if_pos c5] at H; have e5 := decide_eq_true c5; clear c5; have H' := zA H; clear H; obtain ⟨Ao6, co6, eo6⟩ := Kd.R_slice a9.out; subst eo6; have aU : 0 ≤ (ao : Int) := of_decide_eq_true zz1i; have aV : ao < (l0.length : Int) := of_decide_eq_true zz1i; obtain ⟨bi, bV, bc⟩ := Kd.at_int (Kd.R_reads' a9.out).2.2 ao aU aV; cases bV; replace aU := eq_true aU; replace aV := eq_true aV; go_wp2
       go_roundg k1
       case measure => have := bM.out; omega
       case rel => exact ⟨(wrap64 (ao + 1)), zz16, H', ⟨zz1e bM⟩, ⟨zz12 a9⟩, ⟨zz0n HK⟩, ⟨zz0y HB⟩⟩
     · rw [if_neg c5] at H; have e5 := decide_eq_false c5; clear c5; by_cases c7 : (rd l0 ao) = a1
       · rw [if_pos c7] at H; have dy : ((rd l0 ao) == a1) = true := beq_iff_eq.mpr c7; have kg : ((rd l0 ao) != a1) = false := bne_eq_false_iff_eq.mpr c7; clear c7; obtain rfl := Option.some.inj H; obtain ⟨rK, rL, rM⟩ := Kd.R_slice a9.out; subst rM; have aU : 0 ≤ (ao : Int) := of_decide_eq_true zz1i; have aV : ao < (l0.length : Int) := of_decide_eq_true zz1i; obtain ⟨bi, bV, bc⟩ := Kd.at_int (Kd.R_reads' a9.out).2.2 ao aU aV; cases bV; replace aU := eq_true aU; replace aV := eq_true aV; have b0 : 0 ≤ (ao : Int) := of_decide_eq_true zz1i; have b1 : ao < (l0.length : Int) := of_decide_eq_true zz1i; obtain ⟨dz, dh, b5⟩ := Kd.at_int (Kd.R_reads' a9.out).2.2 ao b0 b1; obtain rfl : bi = dz := (by injection dh)
         replace b0 := eq_true b0; replace b1 := eq_true b1; go_wp2; go_ret; exact ⟨_, zz0z, zz12 a9, zz0y HB, zz0n HK⟩
       · rw [if_neg c7] at H; have dy : ((rd l0 ao) == a1) = false := beq_eq_false_iff_ne.mpr c7; have kg : ((rd l0 ao) != a1) = true := bne_iff_ne.mpr c7; obtain ⟨gx, e_y⟩ : ∃ y_ : List Int, y_ = (([] : List Int)) := ⟨_, rfl⟩
         replace H : (if ao ≤ (l0.length : Int) then ((some (l0.take (ao : Int).toNat : List Int)).bind fun fy => (if gx.length + fy.length < 17592186044416 then ((some (gx ++ fy : List Int)).bind fun gQ => (if gQ.length < 17592186044416 then ((some (gQ ++ [a1] : List Int)).bind fun cv => ((some (l0.drop (ao : Int).toNat : List Int)).bind fun cw => (if cv.length + cw.length < 17592186044416 then (some (cv ++ cw)) else (none)))) else (none))) else (none))) else (none)) = some r := zz07
         have jC := zA e_y; clear e_y; have eR := eq_true (of_decide_eq_true zz1i : 0 ≤ ao); replace H := zIn H; obtain ⟨e8, H⟩ := H; have ge := eq_true e8; have n4 : decide (ao ≤ (l0.length : Int)) = true := decide_eq_true e8; clear e8; obtain ⟨fy, e_y⟩ : ∃ y_ : List Int, y_ = (l0.take (ao : Int).toNat) := ⟨_, rfl⟩
         replace H : (if gx.length + fy.length < 17592186044416 then ((some (gx ++ fy : List Int)).bind fun gQ => (if gQ.length < 17592186044416 then ((some (gQ ++ [a1] : List Int)).bind fun cv => ((some (l0.drop (ao : Int).toNat : List Int)).bind fun cw => (if cv.length + cw.length < 17592186044416 then (some (cv ++ cw)) else (none)))) else (none))) else (none)) = some r := zz07
         have jD := zA e_y; clear e_y; replace H := zIn H; obtain ⟨fG, H⟩ := H; have LMc11 := zA fG; clear fG; obtain ⟨gQ, e_y⟩ : ∃ y_ : List Int, y_ = (gx ++ fy) := ⟨_, rfl⟩
         replace H : (if gQ.length < 17592186044416 then ((some (gQ ++ [a1] : List Int)).bind fun cv => ((some (l0.drop (ao : Int).toNat : List Int)).bind fun cw => (if cv.length + cw.length < 17592186044416 then (some (cv ++ cw)) else (none)))) else (none)) = some r := zz07
         have Ny110 := zA e_y; clear e_y; replace H := zIn H; obtain ⟨eS, H⟩ := H; have l8 := zA eS; clear eS; obtain ⟨cv, e_y⟩ : ∃ y_ : List Int, y_ = (gQ ++ [a1]) := ⟨_, rfl⟩
         replace H : ((some (l0.drop (ao : Int).toNat : List Int)).bind fun cw => (if cv.length + cw.length < 17592186044416 then (some (cv ++ cw)) else (none))) = some r := zz07
         have l9 := zA e_y; clear e_y; have hE := eq_true (of_decide_eq_true zz1i : 0 ≤ ao); have jA := eq_true (of_decide_eq_true zz1i : ao ≤ (l0.length : Int)); obtain ⟨cw, e_y⟩ : ∃ y_ : List Int, y_ = (l0.drop (ao : Int).toNat) := ⟨_, rfl⟩
         replace H : (if cv.length + cw.length < 17592186044416 then (some (cv ++ cw)) else (none)) = some r := zz07
         have iy := zA e_y; clear e_y; replace H := zIn H; obtain ⟨f7, H⟩ := H; have LMc15 := zA f7; clear f7; obtain ⟨nv, e_y⟩ : ∃ y_ : List Int, y_ = (cv ++ cw) := ⟨_, rfl⟩
         replace H : (some nv) = some r := zz07
         have ma := zA e_y; clear e_y; obtain rfl := Option.some.inj H; obtain ⟨Ao16, ht, eo16⟩ := Kd.R_slice a9.out; subst eo16; have aU : 0 ≤ (ao : Int) := of_decide_eq_true zz1i; have aV : ao < (l0.length : Int) := of_decide_eq_true zz1i; obtain ⟨bi, bV, bc⟩ := Kd.at_int (Kd.R_reads' a9.out).2.2 ao aU aV; cases bV; replace aU := eq_true aU; replace aV := eq_true aV; have b0 : 0 ≤ (ao : Int) := of_decide_eq_true zz1i; have b1 : ao < (l0.length : Int) := of_decide_eq_true zz1i; obtain ⟨dz, dh, b5⟩ := Kd.at_int (Kd.R_reads' a9.out).2.2 ao b0 b1; obtain rfl : bi = dz := (by injection dh)
         replace b0 := eq_true b0; replace b1 := eq_true b1; go_wp2_with (first | ((with_reducible refine gate_dst (N := 34) rfl ?_); refine Kd.R_lit (Kd.int .i64) _ 3 ?hg (N := 34) ?hd (xs := ([] : List Int)) (inner := []) (ok := fun _ => True) (okp := fun _ => True) ?hr ?hp (fun _ hk => hk) trivial (Below.refl _ _) (Nat.le_refl _) zz1o ?_; (case hd => rfl); (case hg => rfl); (case hr => first | (go_simp; done) | (go_simp; rfl)); (case hp => exact (Reps.none _ _)); intro qI qp hu hb hg_ hnew_; clear hg_ hnew_; (first | rw [← jC.out] at hu | (simp only [Int.reduceToNat] at hu; rw [← jC.out] at hu)); have g6 := zA (Kd.R_lower (Kd.R_new' (Kd.R_newM (M := fun k_ => (P0_ k_ ∨ w.heap.size ≤ k_)) hu zz0c (fun k_ h_ => .inr h_)) (Kd.R_lt (zz12 a9))) (zF (zz0y HB))); replace a9 := zA (Kd.R_elder' (zz12 a9) (Kd.R_base hu) hb); replace HK := zA (Kept.below (S := (fun k_ => P0_ k_)) (zz0n HK) hb); replace HB := zA (zG (zz0y HB) hb); clear hb hu; have rN : (ao : Int) ≤ ((l0.length : Int) : Int) := of_decide_eq_true zz1i; obtain ⟨i019, n8, _, hsz19, _⟩ := info_parts info3; have hroom19 : l0.length ≤ ht := (Kd.R_reads' a9.out).2.1; have hC19 : Kd.C (Kd.int .i64) _ (some bi) l0.length l0 := (Kd.R_reads' a9.out).2.2; have hcut19 := cut_to (P := Try.prog) 23 3 .i64 Try.underlying23 n8 (some bi) l0.length ht ao (of_decide_eq_true zz1i) rN hroom19; have pq := Kd.C_take (m := (ao : Int).toNat) hC19 zz1n; have pr : fy.length = (ao : Int).toNat := (by rw [jD.out, List.length_take]; omega); rw [← jD.out] at pq; rw [← pr] at hcut19; have jE := zA pq; have HC109 := zA (show fy.length ≤ ht from by omega); clear pq hC19 hroom19 n8 hsz19; have KY19 := zA pr; clear pr; have KL19 := zA (show (ao : Int).toNat ≤ l0.length from by omega); replace rN := eq_true rN) | ((with_reducible refine gate_builtin (b := .append) (xs := #[.tmp 34, .tmp 37]) rfl ?_); at_builtin; refine Kd.R_append_rows (Kd.int .i64) (w0 := w0) w0.heap.size rfl (.tmp 34) (.tmp 37) 23 3 (.int .i64 0) 8 rfl Try.underlying23 info3 rfl zz1m zz1n qI gx fy _ _ _ (fun k_ => (P0_ k_ ∨ w.heap.size ≤ k_) ∧ some k_ ≠ (.slice (some bi) l0.length ht : Value).ownBlock) (fun _ => False) rfl rfl ?aO ?aR (fun _ _ h => h) (fun _ h => h.elim) ?aF ?aB ?aS ?aL ?_; (case aR => repeat (first | exact (zz0r jE) | refine zP ?_ _ | refine zQ ?_ _ | refine zR ?_)); (case aB => exact (zz0y HB)); (case aF => exact (fun k_ hk => ⟨(.inr (Nat.le_trans zz0c hk)), Kd.fresh' (Kd.R_lt (zz12 a9)) k_ hk⟩)); (case aO => exact (by (with_reducible repeat (first | apply zT | apply zU | apply zV)); exact Kd.R_mono g6.out (fun _ hk => ⟨hk.1.1, hk.2⟩))); (case aS => exact (zF (zz0y HB))); (case aL => have := LMc11.out; omega); intro ns rz ho hb hg hat; rw [← Ny110.out] at ho; replace HB := zA (hb); replace HK := zA (Kept.of_grown (S := (fun k_ => P0_ k_)) hg (zz0n HK) (fun k_ e_ => (g6.out.1 k_ e_).1.1)); replace jE := zA ((show Kd.C (Kd.int .i64) rz (some bi) fy.length fy from by rw [jD.out]; exact Kd.C_take (m := (ao : Int).toNat) ((Kd.R_reads' (Kd.R_after (ok := (fun k_ => (P0_ k_ ∨ w.heap.size ≤ k_))) (zz12 a9) hg hat)).2.2) KL19.out)); replace a9 := zA (Kd.R_after (ok := (fun k_ => (P0_ k_ ∨ w.heap.size ≤ k_))) (zz12 a9) hg hat); have cO := zA (ho); clear g6; clear ho hb hg hat) | ((with_reducible refine gate_builtin (b := .append) (xs := #[.tmp 39, .tmp 41]) rfl ?_); at_builtin; refine Kd.R_append (Kd.int .i64) (w0 := w0) w0.heap.size rfl (.tmp 39) (.tmp 41) 23 3 (.int .i64 0) 8 rfl Try.underlying23 info3 rfl zz1m zz1n ns gQ a1 [.int .i64 a1] (fun k_ => (P0_ k_ ∨ w.heap.size ≤ k_) ∧ some k_ ≠ (.slice (some bi) l0.length ht : Value).ownBlock) (fun _ => False) rfl rfl ?aP (fun _ hk => hk.elim) ?aF ?aO ?aB ?aS ?aL ?_; (case aP => exact rfl); (case aB => exact (zz0y HB)); (case aF => exact (fun k_ hk => ⟨(.inr (Nat.le_trans zz0c hk)), Kd.fresh' (Kd.R_lt (zz12 a9)) k_ hk⟩)); (case aO => exact (zz12 cO)); (case aS => exact (zF (zz0y HB))); (case aL => have := l8.out; omega); intro d0 si ho hb hg hat; rw [← l9.out] at ho; replace HB := zA (hb); replace HK := zA (Kept.of_grown (S := (fun k_ => P0_ k_)) hg (zz0n HK) (fun k_ e_ => (cO.out.1 k_ e_).1)); replace jE := zA ((show Kd.C (Kd.int .i64) si (some bi) fy.length fy from by rw [jD.out]; exact Kd.C_take (m := (ao : Int).toNat) ((Kd.R_reads' (Kd.R_after (ok := (fun k_ => (P0_ k_ ∨ w.heap.size ≤ k_))) (zz12 a9) hg hat)).2.2) KL19.out)); replace a9 := zA (Kd.R_after (ok := (fun k_ => (P0_ k_ ∨ w.heap.size ≤ k_))) (zz12 a9) hg hat); have dg := zA (ho); clear cO; clear ho hb hg hat; have rO : (ao : Int) ≤ ((l0.length : Int) : Int) := of_decide_eq_true zz1i; obtain ⟨i022, n9, _, hsz22, _⟩ := info_parts info3; have hroom22 : l0.length ≤ ht := (Kd.R_reads' a9.out).2.1; have hC22 : Kd.C (Kd.int .i64) _ (some bi) l0.length l0 := (Kd.R_reads' a9.out).2.2; have q022 : (0 : Int) ≤ (ao : Int) := of_decide_eq_true zz1i; have hcut22 := cut_from (P := Try.prog) 23 3 .i64 Try.underlying23 n9 1 hsz22 (some bi) l0.length ht ao q022 rO; have mb := Kd.C_drop (m := (ao : Int).toNat) (c := ht) hC22 zz1n hroom22; obtain ⟨sj, hA22⟩ : ∃ A1, A1 = (if ht = (ao : Int).toNat then (some bi) else ((some bi) : Option Addr).map (·.add ((ao : Int).toNat * 1))) := ⟨_, rfl⟩; obtain ⟨ir, ps⟩ : ∃ c1, c1 = ht - (ao : Int).toNat := ⟨_, rfl⟩; have nw : cw.length = l0.length - (ao : Int).toNat := (by rw [iy.out, List.length_drop] <;> omega); rw [show (l0).drop (ao : Int).toNat = cw from iy.out.symm] at mb; replace mb : Kd.C (Kd.int .i64) _ sj cw.length cw := (by rw [hA22]; exact mb); rw [← nw, ← hA22, ← ps] at hcut22; have mc := zA mb; have HC119 := zA (show cw.length ≤ ir from by rw [nw, ps]; exact Nat.sub_le_sub_right hroom22 _); clear mb hC22 hroom22 n9 hsz22 ps; have KY22 := zA nw; have KA22 := zA hA22; clear nw hA22; have KL22 := zA (show (ao : Int).toNat ≤ l0.length from by omega); replace rO := eq_true rO) | ((with_reducible refine gate_builtin (b := .append) (xs := #[.tmp 43, .tmp 46]) rfl ?_); at_builtin; refine Kd.R_append_rows (Kd.int .i64) (w0 := w0) w0.heap.size rfl (.tmp 43) (.tmp 46) 23 3 (.int .i64 0) 8 rfl Try.underlying23 info3 rfl zz1m zz1n d0 cv cw _ _ _ (fun k_ => (P0_ k_ ∨ w.heap.size ≤ k_) ∧ some k_ ≠ (.slice (some bi) l0.length ht : Value).ownBlock) (fun _ => False) rfl rfl ?aO ?aR (fun _ _ h => h) (fun _ h => h.elim) ?aF ?aB ?aS ?aL ?_; (case aR => repeat (first | exact (zz0r mc) | refine zP ?_ _ | refine zQ ?_ _ | refine zR ?_)); (case aB => exact (zz0y HB)); (case aF => exact (fun k_ hk => ⟨(.inr (Nat.le_trans zz0c hk)), Kd.fresh' (Kd.R_lt (zz12 a9)) k_ hk⟩)); (case aO => exact (zz12 dg)); (case aS => exact (zF (zz0y HB))); (case aL => have := LMc15.out; omega); intro v121 qH ho hb hg hat; rw [← ma.out] at ho; replace HB := zA (hb); replace HK := zA (Kept.of_grown (S := (fun k_ => P0_ k_)) hg (zz0n HK) (fun k_ e_ => (dg.out.1 k_ e_).1)); replace jE := zA ((show Kd.C (Kd.int .i64) qH (some bi) fy.length fy from by rw [jD.out]; exact Kd.C_take (m := (ao : Int).toNat) ((Kd.R_reads' (Kd.R_after (ok := (fun k_ => (P0_ k_ ∨ w.heap.size ≤ k_))) (zz12 a9) hg hat)).2.2) KL19.out)); replace mc := zA ((show Kd.C (Kd.int .i64) qH sj cw.length cw from by rw [iy.out, KA22.out]; exact Kd.C_drop (m := (ao : Int).toNat) (c := ht) ((Kd.R_reads' (Kd.R_after (ok := (fun k_ => (P0_ k_ ∨ w.heap.size ≤ k_))) (zz12 a9) hg hat)).2.2) KL22.out ((Kd.R_reads' (Kd.R_after (ok := (fun k_ => (P0_ k_ ∨ w.heap.size ≤ k_))) (zz12 a9) hg hat)).2.1))); replace a9 := zA (Kd.R_after (ok := (fun k_ => (P0_ k_ ∨ w.heap.size ≤ k_))) (zz12 a9) hg hat); have md := zA (ho); clear dg; clear ho hb hg hat)); go_ret; exact ⟨_, zz0z, zz0s md, zz0y HB, zz0n HK⟩
   · rw [if_neg c3] at H; have cS := decide_eq_false c3; clear c3; obtain ⟨i6, e_y⟩ : ∃ y_ : List Int, y_ = (([] : List Int)) := ⟨_, rfl⟩
     replace H : (if 0 ≤ ao then (if ao ≤ (l0.length : Int) then ((some (l0.take (ao : Int).toNat : List Int)).bind fun fz => (if i6.length + fz.length < 17592186044416 then ((some (i6 ++ fz : List Int)).bind fun ga => (if ga.length < 17592186044416 then ((some (ga ++ [a1] : List Int)).bind fun dJ => ((some (l0.drop (ao : Int).toNat : List Int)).bind fun cA => (if dJ.length + cA.length < 17592186044416 then (some (dJ ++ cA)) else (none)))) else (none))) else (none))) else (none)) else (none)) = some r := zz07
     have oa := zA e_y; clear e_y; replace H := zIn H; obtain ⟨iq, H⟩ := H; have hH := eq_true iq; have ob : decide (0 ≤ ao) = true := decide_eq_true iq; clear iq; replace H := zIn H; obtain ⟨jF, H⟩ := H; have jG := eq_true jF; have oc : decide (ao ≤ (l0.length : Int)) = true := decide_eq_true jF; clear jF; obtain ⟨fz, e_y⟩ : ∃ y_ : List Int, y_ = (l0.take (ao : Int).toNat) := ⟨_, rfl⟩
     replace H : (if i6.length + fz.length < 17592186044416 then ((some (i6 ++ fz : List Int)).bind fun ga => (if ga.length < 17592186044416 then ((some (ga ++ [a1] : List Int)).bind fun dJ => ((some (l0.drop (ao : Int).toNat : List Int)).bind fun cA => (if dJ.length + cA.length < 17592186044416 then (some (dJ ++ cA)) else (none)))) else (none))) else (none)) = some r := zz07
     have jH := zA e_y; clear e_y; replace H := zIn H; obtain ⟨lW, H⟩ := H; have LMc26 := zA lW; clear lW; obtain ⟨ga, e_y⟩ : ∃ y_ : List Int, y_ = (i6 ++ fz) := ⟨_, rfl⟩
     replace H : (if ga.length < 17592186044416 then ((some (ga ++ [a1] : List Int)).bind fun dJ => ((some (l0.drop (ao : Int).toNat : List Int)).bind fun cA => (if dJ.length + cA.length < 17592186044416 then (some (dJ ++ cA)) else (none)))) else (none)) = some r := zz07
     have me := zA e_y; clear e_y; replace H := zIn H; obtain ⟨gR, H⟩ := H; have LMc27 := zA gR; clear gR; obtain ⟨dJ, e_y⟩ : ∃ y_ : List Int, y_ = (ga ++ [a1]) := ⟨_, rfl⟩
     replace H : ((some (l0.drop (ao : Int).toNat : List Int)).bind fun cA => (if dJ.length + cA.length < 17592186044416 then (some (dJ ++ cA)) else (none))) = some r := zz07
     have kZ := zA e_y; clear e_y; have jI := eq_true (of_decide_eq_true zz1i : 0 ≤ ao); have c29b0 := eq_true (of_decide_eq_true zz1i : ao ≤ (l0.length : Int)); obtain ⟨cA, e_y⟩ : ∃ y_ : List Int, y_ = (l0.drop (ao : Int).toNat) := ⟨_, rfl⟩
     replace H : (if dJ.length + cA.length < 17592186044416 then (some (dJ ++ cA)) else (none)) = some r := zz07
     have iz := zA e_y; clear e_y; replace H := zIn H; obtain ⟨jJ, H⟩ := H; have LMc30 := zA jJ; clear jJ; obtain ⟨y140, e_y⟩ : ∃ y_ : List Int, y_ = (dJ ++ cA) := ⟨_, rfl⟩
     replace H : (some y140) = some r := zz07
     have Ny140 := zA e_y; clear e_y; obtain rfl := Option.some.inj H; obtain ⟨eW, eX, mf⟩ := Kd.R_slice a9.out; subst mf; go_wp2_with (first | ((with_reducible refine gate_dst (N := 34) rfl ?_); refine Kd.R_lit (Kd.int .i64) _ 3 ?hg (N := 34) ?hd (xs := ([] : List Int)) (inner := []) (ok := fun _ => True) (okp := fun _ => True) ?hr ?hp (fun _ hk => hk) trivial (Below.refl _ _) (Nat.le_refl _) zz1o ?_; (case hd => rfl); (case hg => rfl); (case hr => first | (go_simp; done) | (go_simp; rfl)); (case hp => exact (Reps.none _ _)); intro v124 pp lB hb hg_ hnew_; clear hg_ hnew_; (first | rw [← oa.out] at lB | (simp only [Int.reduceToNat] at lB; rw [← oa.out] at lB)); have mg := zA (Kd.R_lower (Kd.R_new' (Kd.R_newM (M := fun k_ => (P0_ k_ ∨ w.heap.size ≤ k_)) lB zz0c (fun k_ h_ => .inr h_)) (Kd.R_lt (zz12 a9))) (zF (zz0y HB))); replace a9 := zA (Kd.R_elder' (zz12 a9) (Kd.R_base lB) hb); replace HK := zA (Kept.below (S := (fun k_ => P0_ k_)) (zz0n HK) hb); replace HB := zA (zG (zz0y HB) hb); clear hb lB; have rP : (ao : Int) ≤ ((l0.length : Int) : Int) := of_decide_eq_true zz1i; obtain ⟨i034, od, _, hsz34, _⟩ := info_parts info3; have hroom34 : l0.length ≤ eX := (Kd.R_reads' a9.out).2.1; have hC34 : Kd.C (Kd.int .i64) _ eW l0.length l0 := (Kd.R_reads' a9.out).2.2; have hcut34 := cut_to (P := Try.prog) 23 3 .i64 Try.underlying23 od eW l0.length eX ao (of_decide_eq_true zz1i) rP hroom34; have pt := Kd.C_take (m := (ao : Int).toNat) hC34 zz1n; have pu : fz.length = (ao : Int).toNat := (by rw [jH.out, List.length_take]; omega); rw [← jH.out] at pt; rw [← pu] at hcut34; have jK := zA pt; have HC129 := zA (show fz.length ≤ eX from by omega); clear pt hC34 hroom34 od hsz34; have KY34 := zA pu; clear pu; have KL34 := zA (show (ao : Int).toNat ≤ l0.length from by omega); replace rP := eq_true rP) | ((with_reducible refine gate_builtin (b := .append) (xs := #[.tmp 34, .tmp 37]) rfl ?_); at_builtin; refine Kd.R_append_rows (Kd.int .i64) (w0 := w0) w0.heap.size rfl (.tmp 34) (.tmp 37) 23 3 (.int .i64 0) 8 rfl Try.underlying23 info3 rfl zz1m zz1n v124 i6 fz _ _ _ (fun k_ => (P0_ k_ ∨ w.heap.size ≤ k_) ∧ some k_ ≠ (.slice eW l0.length eX : Value).ownBlock) (fun _ => False) rfl rfl ?aO ?aR (fun _ _ h => h) (fun _ h => h.elim) ?aF ?aB ?aS ?aL ?_; (case aR => repeat (first | exact (zz0r jK) | refine zP ?_ _ | refine zQ ?_ _ | refine zR ?_)); (case aB => exact (zz0y HB)); (case aF => exact (fun k_ hk => ⟨(.inr (Nat.le_trans zz0c hk)), Kd.fresh' (Kd.R_lt (zz12 a9)) k_ hk⟩)); (case aO => exact (by (with_reducible repeat (first | apply zT | apply zU | apply zV)); exact Kd.R_mono mg.out (fun _ hk => ⟨hk.1.1, hk.2⟩))); (case aS => exact (zF (zz0y HB))); (case aL => have := LMc26.out; omega); intro qJ rA ho hb hg hat; rw [← me.out] at ho; replace HB := zA (hb); replace HK := zA (Kept.of_grown (S := (fun k_ => P0_ k_)) hg (zz0n HK) (fun k_ e_ => (mg.out.1 k_ e_).1.1)); replace jK := zA ((show Kd.C (Kd.int .i64) rA eW fz.length fz from by rw [jH.out]; exact Kd.C_take (m := (ao : Int).toNat) ((Kd.R_reads' (Kd.R_after (ok := (fun k_ => (P0_ k_ ∨ w.heap.size ≤ k_))) (zz12 a9) hg hat)).2.2) KL34.out)); replace a9 := zA (Kd.R_after (ok := (fun k_ => (P0_ k_ ∨ w.heap.size ≤ k_))) (zz12 a9) hg hat); have jL := zA (ho); clear mg; clear ho hb hg hat) | ((with_reducible refine gate_builtin (b := .append) (xs := #[.tmp 39, .tmp 41]) rfl ?_); at_builtin; refine Kd.R_append (Kd.int .i64) (w0 := w0) w0.heap.size rfl (.tmp 39) (.tmp 41) 23 3 (.int .i64 0) 8 rfl Try.underlying23 info3 rfl zz1m zz1n qJ ga a1 [.int .i64 a1] (fun k_ => (P0_ k_ ∨ w.heap.size ≤ k_) ∧ some k_ ≠ (.slice eW l0.length eX : Value).ownBlock) (fun _ => False) rfl rfl ?aP (fun _ hk => hk.elim) ?aF ?aO ?aB ?aS ?aL ?_; (case aP => exact rfl); (case aB => exact (zz0y HB)); (case aF => exact (fun k_ hk => ⟨(.inr (Nat.le_trans zz0c hk)), Kd.fresh' (Kd.R_lt (zz12 a9)) k_ hk⟩)); (case aO => exact (zz12 jL)); (case aS => exact (zF (zz0y HB))); (case aL => have := LMc27.out; omega); intro mh rQ ho hb hg hat; rw [← kZ.out] at ho; replace HB := zA (hb); replace HK := zA (Kept.of_grown (S := (fun k_ => P0_ k_)) hg (zz0n HK) (fun k_ e_ => (jL.out.1 k_ e_).1)); replace jK := zA ((show Kd.C (Kd.int .i64) rQ eW fz.length fz from by rw [jH.out]; exact Kd.C_take (m := (ao : Int).toNat) ((Kd.R_reads' (Kd.R_after (ok := (fun k_ => (P0_ k_ ∨ w.heap.size ≤ k_))) (zz12 a9) hg hat)).2.2) KL34.out)); replace a9 := zA (Kd.R_after (ok := (fun k_ => (P0_ k_ ∨ w.heap.size ≤ k_))) (zz12 a9) hg hat); have iA := zA (ho); clear jL; clear ho hb hg hat; have rR : (ao : Int) ≤ ((l0.length : Int) : Int) := of_decide_eq_true zz1i; obtain ⟨i037, oe, _, hsz37, _⟩ := info_parts info3; have hroom37 : l0.length ≤ eX := (Kd.R_reads' a9.out).2.1; have hC37 : Kd.C (Kd.int .i64) _ eW l0.length l0 := (Kd.R_reads' a9.out).2.2; have q037 : (0 : Int) ≤ (ao : Int) := of_decide_eq_true zz1i; have hcut37 := cut_from (P := Try.prog) 23 3 .i64 Try.underlying23 oe 1 hsz37 eW l0.length eX ao q037 rR; have mi := Kd.C_drop (m := (ao : Int).toNat) (c := eX) hC37 zz1n hroom37; obtain ⟨rB, hA37⟩ : ∃ A1, A1 = (if eX = (ao : Int).toNat then eW else (eW : Option Addr).map (·.add ((ao : Int).toNat * 1))) := ⟨_, rfl⟩; obtain ⟨ke, pv⟩ : ∃ c1, c1 = eX - (ao : Int).toNat := ⟨_, rfl⟩; have nx : cA.length = l0.length - (ao : Int).toNat := (by rw [iz.out, List.length_drop] <;> omega); rw [show (l0).drop (ao : Int).toNat = cA from iz.out.symm] at mi; replace mi : Kd.C (Kd.int .i64) _ rB cA.length cA := (by rw [hA37]; exact mi); rw [← nx, ← hA37, ← pv] at hcut37; have mj := zA mi; have HC139 := zA (show cA.length ≤ ke from by rw [nx, pv]; exact Nat.sub_le_sub_right hroom37 _); clear mi hC37 hroom37 oe hsz37 pv; have KY37 := zA nx; have KA37 := zA hA37; clear nx hA37; have KL37 := zA (show (ao : Int).toNat ≤ l0.length from by omega); replace rR := eq_true rR) | ((with_reducible refine gate_builtin (b := .append) (xs := #[.tmp 43, .tmp 46]) rfl ?_); at_builtin; refine Kd.R_append_rows (Kd.int .i64) (w0 := w0) w0.heap.size rfl (.tmp 43) (.tmp 46) 23 3 (.int .i64 0) 8 rfl Try.underlying23 info3 rfl zz1m zz1n mh dJ cA _ _ _ (fun k_ => (P0_ k_ ∨ w.heap.size ≤ k_) ∧ some k_ ≠ (.slice eW l0.length eX : Value).ownBlock) (fun _ => False) rfl rfl ?aO ?aR (fun _ _ h => h) (fun _ h => h.elim) ?aF ?aB ?aS ?aL ?_; (case aR => repeat (first | exact (zz0r mj) | refine zP ?_ _ | refine zQ ?_ _ | refine zR ?_)); (case aB => exact (zz0y HB)); (case aF => exact (fun k_ hk => ⟨(.inr (Nat.le_trans zz0c hk)), Kd.fresh' (Kd.R_lt (zz12 a9)) k_ hk⟩)); (case aO => exact (zz12 iA)); (case aS => exact (zF (zz0y HB))); (case aL => have := LMc30.out; omega); intro v141 qK ho hb hg hat; rw [← Ny140.out] at ho; replace HB := zA (hb); replace HK := zA (Kept.of_grown (S := (fun k_ => P0_ k_)) hg (zz0n HK) (fun k_ e_ => (iA.out.1 k_ e_).1)); replace jK := zA ((show Kd.C (Kd.int .i64) qK eW fz.length fz from by rw [jH.out]; exact Kd.C_take (m := (ao : Int).toNat) ((Kd.R_reads' (Kd.R_after (ok := (fun k_ => (P0_ k_ ∨ w.heap.size ≤ k_))) (zz12 a9) hg hat)).2.2) KL34.out)); replace mj := zA ((show Kd.C (Kd.int .i64) qK rB cA.length cA from by rw [iz.out, KA37.out]; exact Kd.C_drop (m := (ao : Int).toNat) (c := eX) ((Kd.R_reads' (Kd.R_after (ok := (fun k_ => (P0_ k_ ∨ w.heap.size ≤ k_))) (zz12 a9) hg hat)).2.2) KL37.out ((Kd.R_reads' (Kd.R_after (ok := (fun k_ => (P0_ k_ ∨ w.heap.size ≤ k_))) (zz12 a9) hg hat)).2.1))); replace a9 := zA (Kd.R_after (ok := (fun k_ => (P0_ k_ ∨ w.heap.size ≤ k_))) (zz12 a9) hg hat); have HO142 := zA (ho); clear iA; clear ho hb hg hat)); go_ret; exact ⟨_, zz0z, zz0s HO142, zz0y HB, zz0n HK⟩
def spec_l1Has.l0 : Nat → Int → List Int → Int → Int → Option (Bool)
 | 0, _, _, _, _ => none
 | k + 1, x1, x7, x8, x9 => if x9 < x8 then (if 0 ≤ x9 then (if x9 < (x7.length : Int) then (if (rd x7 x9) = x1 then (some true) else (spec_l1Has.l0 k x1 x7 x8 (wrap64 (x9 + 1)))) else (none)) else (none)) else (some false)
def spec_l1Has.f (k : Nat) (l0 : List Int) (a1 : Int) : Option (Bool) := spec_l1Has.l0 k a1 l0 (l0.length : Int) 0
set_option maxHeartbeats 8000000 in
set_option maxRecDepth 100000 in
theorem spec_l1Has.calls (k : Nat) (A0 : Option Addr) (c0 : Nat) (l0 : List Int) (a1 : Int) (r : Bool) (w : World) (dK : Kd.C (Kd.int .i64) w A0 l0.length l0) (dL : l0.length ≤ c0) (h : spec_l1Has.f k l0 a1 = some r) :
 Calls Try.prog 63 #[.slice A0 l0.length c0, .int .i64 a1] w fun e w' => e = .returned (.bool r) ∧ Drawn0 w w' := by
 have dx := zA dK; have iG := zA dL; clear dK dL; have H : (spec_l1Has.l0 k a1 l0 (l0.length : Int) 0) = some r := h; clear h; have H' := zA H; clear H; go_enter Try.func63, Try.ntmps63; go_wp2; go_loopg [9] k (fun kq v9 w' => ∃ (b6 : Int), v9 = .int .i64 b6 ∧ Aside0 (spec_l1Has.l0 kq a1 l0 (l0.length : Int) b6 = some r) ∧ Aside0 (kq ≤ k) ∧ Drawn0 w w')
 case atStart => exact ⟨(0), zz16, H', ⟨Nat.le_refl _⟩, zz14⟩
 case round =>
  clear H'; (try clear p2); obtain ⟨b6, rfl, HA, bM, ⟨m1, rfl⟩⟩ := hrel; cases gk with
  | zero => exact absurd HA.out (by simp [spec_l1Has.l0])
  | succ k1 =>
   have H := HA.out; clear HA; simp only [spec_l1Has.l0] at H; by_cases c3 : b6 < (l0.length : Int)
   · rw [if_pos c3] at H; have cS := decide_eq_true c3; clear c3; replace H := zIn H; obtain ⟨c4, H⟩ := H; have dp : decide (0 ≤ b6) = true := decide_eq_true c4; clear c4; replace H := zIn H; obtain ⟨c5, H⟩ := H; have e5 : decide (b6 < (l0.length : Int)) = true := decide_eq_true c5; clear c5; by_cases c6 : (rd l0 b6) = a1
     · rw [if_pos c6] at H; have dq : ((rd l0 b6) == a1) = true := beq_iff_eq.mpr c6; have hI : ((rd l0 b6) != a1) = false := bne_eq_false_iff_eq.mpr c6; clear c6; obtain rfl := Option.some.inj H; have aU : 0 ≤ (b6 : Int) := of_decide_eq_true zz1i; have aV : b6 < (l0.length : Int) := of_decide_eq_true zz1i; obtain ⟨bi, bV, bc⟩ := Kd.at_int dx.out b6 aU aV; cases bV; replace aU := eq_true aU; replace aV := eq_true aV; go_wp2; go_ret; exact ⟨zz16, zz14⟩
     · rw [if_neg c6] at H; have dq : ((rd l0 b6) == a1) = false := beq_eq_false_iff_ne.mpr c6; have hI : ((rd l0 b6) != a1) = true := bne_iff_ne.mpr c6; have H' := zA H; clear H; have aU : 0 ≤ (b6 : Int) := of_decide_eq_true zz1i; have aV : b6 < (l0.length : Int) := of_decide_eq_true zz1i; obtain ⟨bi, bV, bc⟩ := Kd.at_int dx.out b6 aU aV; cases bV; replace aU := eq_true aU; replace aV := eq_true aV; go_wp2
       go_roundg k1
       case measure => have := bM.out; omega
       case rel => exact ⟨(wrap64 (b6 + 1)), zz16, H', ⟨zz1e bM⟩, zz14⟩
   · rw [if_neg c3] at H; have cS := decide_eq_false c3; clear c3; obtain rfl := Option.some.inj H; go_wp2; go_ret; exact ⟨zz16, zz14⟩
def spec_l1Own.f (l0 : List Int) : Option (List Int) := (some (([] : List Int) : List Int)).bind fun dP => (if dP.length + l0.length < 17592186044416 then (some (dP ++ l0)) else (none))
set_option maxHeartbeats 8000000 in
set_option maxRecDepth 100000 in
theorem spec_l1Own.calls (A0 : Option Addr) (c0 : Nat) (l0 : List Int) (r : List Int) (w : World) (dK : Kd.C (Kd.int .i64) w A0 l0.length l0) (dL : l0.length ≤ c0) (h : spec_l1Own.f l0 = some r) :
 Calls Try.prog 65 #[.slice A0 l0.length c0] w fun e w' => ∃ eQ : Value, e = .returned (eQ) ∧ Kd.R (Kd.int .i64) 3 w' w.heap.size (fun _ => True) eQ r ∧ Below w.heap.size w w' := by
 have dx := zA dK; have iG := zA dL; clear dK dL; have HB := zA (Below.refl w.heap.size w); have H : ((some (([] : List Int) : List Int)).bind fun dP => (if dP.length + l0.length < 17592186044416 then (some (dP ++ l0)) else (none))) = some r := h; clear h; obtain ⟨dP, e_y⟩ : ∃ y_ : List Int, y_ = (([] : List Int)) := ⟨_, rfl⟩
 replace H : (if dP.length + l0.length < 17592186044416 then (some (dP ++ l0)) else (none)) = some r := zz07
 have fJ := zA e_y; clear e_y; replace H := zIn H; obtain ⟨c2, H⟩ := H; have LMc2 := zA c2; clear c2; obtain ⟨gb, e_y⟩ : ∃ y_ : List Int, y_ = (dP ++ l0) := ⟨_, rfl⟩
 replace H : (some gb) = some r := zz07
 have ml := zA e_y; clear e_y; obtain rfl := Option.some.inj H; go_enter Try.func65, Try.ntmps65; go_wp2_with (first | ((with_reducible refine gate_dst (N := 3) rfl ?_); refine Kd.R_lit (Kd.int .i64) _ 3 ?hg (N := 3) ?hd (xs := ([] : List Int)) (inner := []) (ok := fun _ => True) (okp := fun _ => True) ?hr ?hp (fun _ hk => hk) trivial (Below.refl _ _) (Nat.le_refl _) zz1o ?_; (case hd => rfl); (case hg => rfl); (case hr => first | (go_simp; done) | (go_simp; rfl)); (case hp => exact (Reps.none _ _)); intro jx w3 qL hb hg_ hnew_; clear hg_ hnew_; (first | rw [← fJ.out] at qL | (simp only [Int.reduceToNat] at qL; rw [← fJ.out] at qL)); have fK := zA (Kd.R_lower qL (zF (zz0y HB))); replace HB := zA (zG (zz0y HB) hb); clear hb qL) | ((with_reducible refine gate_builtin (b := .append) (xs := #[.tmp 3, .tmp 4]) rfl ?_); at_builtin; refine Kd.R_append_rows (Kd.int .i64) (w0 := w) w.heap.size rfl (.tmp 3) (.tmp 4) 23 3 (.int .i64 0) 8 rfl Try.underlying23 info3 rfl zz1m zz1n jx dP l0 _ _ _ (fun _ => True) (fun _ => False) rfl rfl ?aO ?aR (fun _ _ h => h) (fun _ h => h.elim) ?aF ?aB ?aS ?aL ?_; (case aR => exact (zz11 dx HB)); (case aB => exact (zz0y HB)); (case aF => exact (fun _ _ => trivial)); (case aO => exact (zz12 fK)); (case aS => exact (zF (zz0y HB))); (case aL => have := LMc2.out; omega); intro lz w5 ho hb hg hat; rw [← ml.out] at ho; replace HB := zA (hb); have cJ := zA (ho); clear fK; clear ho hb hg hat)); go_ret; exact ⟨_, zz0z, zz12 cJ, zz0y HB⟩
end Go.Proofs.Ytkocahlifffgjaa.P
namespace Go.Proofs.Ytkocahlifffgjaa.P
open Go.RowKit Go.Proofs.YtkocahlifffgjaaW.PrintWords
set_option linter.unusedVariables false
set_option linter.unusedSimpArgs false
theorem wsuccL {i n : Nat} (h : i < n) (hn : n ≤ 9223372036854775807) : wrap64 ((i : Int) + 1) = ((i + 1 : Nat) : Int) := by unfold wrap64; omega
theorem putI_split (a b : List Int) (n : Int) (h : ∀ x, x ∈ a → x < n) : putI (a ++ b) n = a ++ putI b n := by
 induction a with
 | nil => rfl
 | cons x a ih =>
  have h1 := h x List.mem_cons_self; show (if x < n then x :: putI (a ++ b) n else _) = _; rw [if_pos h1, ih fun y hy => h y (List.mem_cons_of_mem _ hy)]; rfl
theorem mem_take_rd {l : List Int} {i : Nat} {x : Int} (h : x ∈ l.take i) : ∃ j : Nat, j < i ∧ j < l.length ∧ rd l j = x := by
 obtain ⟨j, hj, rfl⟩ := List.getElem_of_mem h; rw [List.length_take] at hj; refine ⟨j, zz1n, zz1n, ?_⟩; unfold rd; rw [List.getElem_take, Int.toNat_natCast, List.getD_eq_getElem?_getD, List.getElem?_eq_getElem zz1n]; rfl
theorem put_loop (l : List Int) (n : Int) (hl : l.length < 17592186044415) (d : Nat) : ∀ (k i : Nat), i ≤ l.length → l.length - i = d → d < k → (∀ j : Nat, j < i → rd l j < n) → spec_l1Put.l0 k l n i = some (putI l n) := by
 have hb : l.length ≤ 9223372036854775807 := by omega
 induction d with
 | zero =>
  intro k i h1 hd hk hp; obtain ⟨k, rfl⟩ : ∃ m, k = m + 1 := ⟨k - 1, zz1n⟩
  have hi : i = l.length := by omega
  subst hi; have e : putI l n = l ++ [n] := by
   have := putI_split l [] n (fun x hx => by
    obtain ⟨j, hj1, hj2, rfl⟩ := mem_take_rd (i := l.length) (by rw [List.take_length]; exact hx); exact hp j hj2)
   rw [List.append_nil] at this; exact this
  simp only [spec_l1Put.l0]; rw [if_neg zz1n]; simp only [Option.bind_some]; rw [if_pos zz1n, if_pos zz1n, Int.toNat_natCast, List.take_length, List.drop_length]; simp only [List.length_nil, List.nil_append, List.length_append, List.length_cons, List.append_nil]; rw [if_pos zz1n, if_pos zz1n, if_pos zz1n, e]
 | succ d ih =>
  intro k i h1 hd hk hp; obtain ⟨k, rfl⟩ : ∃ m, k = m + 1 := ⟨k - 1, zz1n⟩
  have hil : i < l.length := by omega
  have ed : l.drop i = rd l i :: l.drop (i + 1) := getD_drop l i 0 hil; have es : putI l n = l.take i ++ putI (l.drop i) n := by
   rw [← putI_split _ _ _ (fun x hx => by
    obtain ⟨j, hj1, hj2, rfl⟩ := mem_take_rd hx; exact hp j hj1), List.take_append_drop]
  simp only [spec_l1Put.l0]; rw [if_pos zz1n, if_pos zz1n]; by_cases c1 : rd l i < n
  · rw [if_pos c1, wsuccL hil hb]; exact ih k (i + 1) zz1n zz1n zz1n fun j hj => by
     by_cases e : j = i
     · rw [e]; exact c1
     · exact hp j zz1n
  · rw [if_neg c1]; by_cases c2 : rd l i = n
    · rw [if_pos c2, es, ed]; show some l = some (l.take i ++ (if rd l i < n then _ else if rd l i = n then rd l i :: l.drop (i + 1) else _)); rw [if_neg c1, if_pos c2, ← ed, List.take_append_drop]
    · rw [if_neg c2]; simp only [Option.bind_some]; rw [if_pos zz1n, Int.toNat_natCast]; have h3 : (l.take i).length = i := by rw [List.length_take]; omega
      have h4 : (l.drop i).length = l.length - i := List.length_drop; simp only [List.length_nil, List.nil_append, List.length_append, List.length_cons, h3, h4]; rw [if_pos zz1n, if_pos zz1n, if_pos zz1n, es, ed]; show _ = some (l.take i ++ (if rd l i < n then _ else if rd l i = n then _ else n :: rd l i :: l.drop (i + 1))); rw [if_neg c1, if_neg c2, List.append_assoc]; rfl
theorem put_eq (l : List Int) (n : Int) (hl : l.length < 17592186044415) (k : Nat) (hk : l.length < k) : spec_l1Put.f k l n = some (putI l n) := by
 unfold spec_l1Put.f; exact put_loop l n hl l.length k 0 zz1n zz1n hk (fun j hj => by omega)
theorem has_loop (l : List Int) (n : Int) (hb : l.length ≤ 9223372036854775807) (d : Nat) : ∀ (k i : Nat), i ≤ l.length → l.length - i = d → d < k → spec_l1Has.l0 k n l l.length i = some (decide (n ∈ l.drop i)) := by
 induction d with
 | zero =>
  intro k i h1 hd hk; obtain ⟨k, rfl⟩ : ∃ m, k = m + 1 := ⟨k - 1, zz1n⟩
  simp only [spec_l1Has.l0]; rw [if_neg zz1n, List.drop_of_length_le zz1n]; simp
 | succ d ih =>
  intro k i h1 hd hk; obtain ⟨k, rfl⟩ : ∃ m, k = m + 1 := ⟨k - 1, zz1n⟩
  have hil : i < l.length := by omega
  have ed : l.drop i = rd l i :: l.drop (i + 1) := getD_drop l i 0 hil; simp only [spec_l1Has.l0]; rw [if_pos zz1n, if_pos zz1n, if_pos zz1n, ed]; by_cases c : rd l i = n
  · rw [if_pos c, decide_eq_true (by rw [c]; exact List.mem_cons_self)]
  · rw [if_neg c, wsuccL hil hb, ih k (i + 1) zz1n zz1n zz1n]; congr 1; rw [Bool.eq_iff_iff, decide_eq_true_eq, decide_eq_true_eq, List.mem_cons]; exact ⟨.inr, fun h => h.elim (fun h => absurd h.symm c) id⟩
theorem has_eq (l : List Int) (n : Int) (hb : l.length ≤ 9223372036854775807) (k : Nat) (hk : l.length < k) : spec_l1Has.f k l n = some (decide (n ∈ l)) := by
 unfold spec_l1Has.f; have := has_loop l n hb l.length k 0 zz1n zz1n hk; rw [show ((0 : Nat) : Int) = 0 from rfl, List.drop_zero] at this; exact this
theorem own_eq (l : List Int) (hl : l.length < 17592186044416) : spec_l1Own.f l = some l := by
 unfold spec_l1Own.f; simp only [Option.bind_some, List.length_nil, List.nil_append]; rw [if_pos zz1n]
theorem compact_up (s : List Int) (hs : s.Pairwise (· ≤ ·)) : ∀ m, m ≤ s.length → UpI (Go.Lib.compactUpTo s.toArray m) ∧ (∀ x, x ∈ Go.Lib.compactUpTo s.toArray m ↔ ∃ j : Nat, j < m ∧ rd s j = x) := by
 have hget : ∀ j, j < s.length → s.toArray[j]! = rd s j := fun j hj => by
  unfold rd; rw [Int.toNat_natCast, List.getD_eq_getElem?_getD, List.getElem?_eq_getElem hj, getElem!_pos s.toArray j (by simpa using hj)]; simp
 have hle : ∀ i j : Nat, i < j → j < s.length → rd s i ≤ rd s j := fun i j hij hj => by
  have := List.pairwise_iff_getElem.1 hs i j zz1n hj hij; unfold rd; rw [Int.toNat_natCast, Int.toNat_natCast, List.getD_eq_getElem?_getD, List.getD_eq_getElem?_getD, List.getElem?_eq_getElem hj, List.getElem?_eq_getElem (show i < s.length by omega)]; exact this
 intro m
 induction m with
 | zero => intro _; exact ⟨List.Pairwise.nil, fun x => ⟨(fun h => by cases h), (fun ⟨j, hj, _⟩ => by omega)⟩⟩
 | succ m ih =>
  intro hm; obtain ⟨h1, h2⟩ := ih zz1n; rw [Go.Lib.compactUpTo_succ]; cases hk : Go.Lib.keeps s.toArray m with
  | true =>
   rw [if_pos rfl, hget m zz1n]; have hlt : ∀ x, x ∈ Go.Lib.compactUpTo s.toArray m → x < rd s m := fun x hx => by
    obtain ⟨j, hj, rfl⟩ := (h2 x).1 hx; unfold Go.Lib.keeps at hk; rcases of_decide_eq_true hk with h | h
    · omega
    · rw [hget m zz1n, hget (m - 1) zz1n] at h; have a1 := hle (m - 1) m zz1n zz1n; have a2 : rd s j ≤ rd s ((m - 1 : Nat) : Int) := by
       by_cases e : j = m - 1
       · rw [e]; omega
       · exact hle j (m - 1) zz1n zz1n
      omega
   refine ⟨List.pairwise_append.2 ⟨h1, List.pairwise_singleton _ _, fun a ha b hb => by rw [List.mem_singleton.1 hb]; exact hlt a ha⟩, fun x => ?_⟩; rw [List.mem_append, h2, List.mem_singleton]; exact ⟨fun h => h.elim (fun ⟨j, hj, e⟩ => ⟨j, zz1n, e⟩) (fun e => ⟨m, zz1n, e.symm⟩), fun ⟨j, hj, e⟩ => by
    by_cases c : j = m
    · subst c; exact .inr e.symm
    · exact .inl ⟨j, zz1n, e⟩⟩
  | false =>
   rw [if_neg zz1m, List.append_nil]; refine ⟨h1, fun x => ?_⟩; rw [h2]; unfold Go.Lib.keeps at hk; have hn := of_decide_eq_false hk; have hm0 : m ≠ 0 := fun e => hn (.inl e)
   have he : s.toArray[m]! = s.toArray[m - 1]! := by
    by_cases c : s.toArray[m]! = s.toArray[m - 1]!
    · exact c
    · exact absurd (.inr c) hn
   rw [hget m zz1n, hget (m - 1) zz1n] at he; exact ⟨fun ⟨j, hj, e⟩ => ⟨j, zz1n, e⟩, fun ⟨j, hj, e⟩ => by
    by_cases c : j = m
    · subst c; exact ⟨j - 1, zz1n, by rw [← e, he]⟩
    · exact ⟨j, zz1n, e⟩⟩
theorem compact_sort (l : List Int) : Go.Lib.compactUpTo (l.mergeSort fun x y => decide (x ≤ y)).toArray (l.mergeSort fun x y => decide (x ≤ y)).length = sortI l := by
 have hs : (l.mergeSort fun x y => decide (x ≤ y)).Pairwise (· ≤ ·) := by
  have := List.pairwise_mergeSort (le := fun (x y : Int) => decide (x ≤ y)) (fun a b c h1 h2 => by simp at *; omega) (fun a b => by simp; omega) l; exact this.imp fun h => by simpa using h
 obtain ⟨h1, h2⟩ := compact_up _ hs _ (Nat.le_refl _); refine upI_of h1 fun x => (h2 x).trans ?_
 rw [← List.mem_mergeSort (le := fun (x y : Int) => decide (x ≤ y))]; constructor
 · rintro ⟨j, hj, rfl⟩; unfold rd; rw [Int.toNat_natCast, List.getD_eq_getElem?_getD, List.getElem?_eq_getElem hj]; exact List.getElem_mem hj
 · intro h; obtain ⟨j, hj, rfl⟩ := List.getElem_of_mem h; refine ⟨j, hj, ?_⟩; unfold rd; rw [Int.toNat_natCast, List.getD_eq_getElem?_getD, List.getElem?_eq_getElem hj]; rfl
end Go.Proofs.Ytkocahlifffgjaa.P
namespace Go.Proofs.Ytkocahlifffgjaa.P
open Go.RowKit Go.Proofs.YtkocahlifffgjaaW.PrintWords Go.Proofs.YtkocahlifffgjaaW.PrintLast Go.Proofs.YtkocahlifffgjaaW.PrintMore
attribute [local go_sem] max2_int min2_int max_two min_two max_three min_three max_four min_four
set_option linter.unusedVariables false
set_option linter.unusedSimpArgs false
mutual
def spec_l5Null.l0 : Nat → List Int → Bool → Int → Int → List (List Int) → List (List Int) → List Int → List (List Int) → Option (List Int)
 | 0, _, _, _, _, _, _, _, _ => none
 | k + 1, x3, x4, aN, aT, aE, aI, aQ, aM => if x4 = true then (spec_l5Null.l1 k x3 false aE (aE.length : Int) 0 aN aT aE aI aQ aM) else (some x3)
def spec_l5Null.l1 : Nat → List Int → Bool → List (List Int) → Int → Int → Int → Int → List (List Int) → List (List Int) → List Int → List (List Int) → Option (List Int)
 | 0, _, _, _, _, _, _, _, _, _, _, _ => none
 | k + 1, x3, x4, dS, lX, kf, aN, aT, aE, aI, aQ, aM => if kf < lX then (if 0 ≤ kf then (if kf < (dS.length : Int) then (if 0 < ((rd_L1 dS kf).length : Int) then ((spec_l1Has.f k x3 (rd (rd_L1 dS kf) 0)).bind fun b8 => (if b8 = true then (spec_l5Null.l1 k x3 x4 dS lX (wrap64 (kf + 1)) aN aT aE aI aQ aM) else (if 1 < ((rd_L1 dS kf).length : Int) then ((spec_l1Has.f k x3 (rd (rd_L1 dS kf) 1)).bind fun cK => (if cK = true then (if 2 < ((rd_L1 dS kf).length : Int) then ((spec_l1Has.f k x3 (rd (rd_L1 dS kf) 2)).bind fun fh => (if fh = true then ((spec_l1Put.f k x3 (rd (rd_L1 dS kf) 0)).bind fun dZ => (spec_l5Null.l1 k dZ true dS lX (wrap64 (kf + 1)) aN aT aE aI aQ aM)) else (spec_l5Null.l1 k x3 x4 dS lX (wrap64 (kf + 1)) aN aT aE aI aQ aM))) else (none)) else (spec_l5Null.l1 k x3 x4 dS lX (wrap64 (kf + 1)) aN aT aE aI aQ aM))) else (none)))) else (none)) else (none)) else (none)) else (spec_l5Null.l2 k x3 x4 aI (aI.length : Int) 0 aN aT aE aI aQ aM)
def spec_l5Null.l2 : Nat → List Int → Bool → List (List Int) → Int → Int → Int → Int → List (List Int) → List (List Int) → List Int → List (List Int) → Option (List Int)
 | 0, _, _, _, _, _, _, _, _, _, _, _ => none
 | k + 1, x3, x4, ny, rC, mm, aN, aT, aE, aI, aQ, aM => if mm < rC then (if 0 ≤ mm then (if mm < (ny.length : Int) then (if 0 < ((rd_L1 ny mm).length : Int) then ((spec_l1Has.f k x3 (rd (rd_L1 ny mm) 0)).bind fun kp => (if kp = true then (spec_l5Null.l2 k x3 x4 ny rC (wrap64 (mm + 1)) aN aT aE aI aQ aM) else (if 1 < ((rd_L1 ny mm).length : Int) then ((spec_l1Has.f k x3 (rd (rd_L1 ny mm) 1)).bind fun pw => (if pw = true then ((spec_l1Put.f k x3 (rd (rd_L1 ny mm) 0)).bind fun nz => (spec_l5Null.l2 k nz true ny rC (wrap64 (mm + 1)) aN aT aE aI aQ aM)) else (spec_l5Null.l2 k x3 x4 ny rC (wrap64 (mm + 1)) aN aT aE aI aQ aM))) else (none)))) else (none)) else (none)) else (none)) else (spec_l5Null.l0 k x3 x4 aN aT aE aI aQ aM)
end
def spec_l5Null.f (k : Nat) (ah : Int) (ai : Int) (ab : List (List Int)) (ae : List (List Int)) (ag : List Int) (af : List (List Int)) : Option (List Int) := (spec_l1Own.f ag).bind fun aG => (spec_l5Null.l0 k aG true ah ai ab ae ag af)
set_option maxHeartbeats 8000000 in
set_option maxRecDepth 100000 in
theorem spec_l5Null.calls (k : Nat) (ah : Int) (ai : Int) (ay : Option Addr) (ap : Nat) (ab : List (List Int)) (ax : Option Addr) (au : Nat) (ae : List (List Int)) (aq : Option Addr) (ar : Nat) (ag : List Int) (av : Option Addr) (aw : Nat) (af : List (List Int)) (r : List Int) (w : World) (bw : Kd.C (Kd.slice 3 (Kd.int .i64)) w ay ab.length ab) (bx : ab.length ≤ ap) (bz : Kd.C (Kd.slice 3 (Kd.int .i64)) w ax ae.length ae) (bA : ae.length ≤ au) (bB : Kd.C (Kd.int .i64) w aq ag.length ag) (bC : ag.length ≤ ar) (bD : Kd.C (Kd.slice 3 (Kd.int .i64)) w av af.length af) (bE : af.length ≤ aw) (h : spec_l5Null.f k ah ai ab ae ag af = some r) :
 Calls Try.prog 89 #[.agg #[.int .i64 ah, .int .i64 ai, .slice ay ab.length ap, .slice ax ae.length au, .slice aq ag.length ar, .slice av af.length aw]] w fun e w' => ∃ eQ : Value, e = .returned (eQ) ∧ Kd.R (Kd.int .i64) 3 w' w.heap.size (fun _ => True) eQ r ∧ Below w.heap.size w w' := by
 have hu29 := Try.underlying29; have bm := zA bw; have bF := zA bx; clear bw bx; have bq := zA bz; have bG := zA bA; clear bz bA; have bH := zA bB; have bI := zA bC; clear bB bC; have bJ := zA bD; have bN := zA bE; clear bD bE; have HB := zA (Below.refl w.heap.size w); have H : ((spec_l1Own.f ag).bind fun aG => (spec_l5Null.l0 k aG true ah ai ab ae ag af)) = some r := h; clear h; replace H := Option.bind_eq_some_iff.mp H; obtain ⟨aG, l4, H⟩ := H; have A2 := zA l4; clear l4; have H' := zA H; clear H; go_enter Try.func89, Try.ntmps89; go_wp2_with (first | ((with_reducible refine gate_dst (N := 1) rfl ?_); refine box_event ?hg (N := 1) ?hd (cs := #[.int .i64 ah, .int .i64 ai, .slice ay ab.length ap, .slice ax ae.length au, .slice aq ag.length ar, .slice av af.length aw]) (t := 29) ?hr ?_; (case hd => rfl); (case hg => rfl); (case hr => first | (go_simp; done) | (go_simp; rfl)); intro ad hg w3 hbox hb; have aa := zA (hbox); have ce := zA ((by rw [hg]; exact (zF (zz0y HB)) : w.heap.size ≤ ad)); have ac := zA ((by rw [hg]; exact (zF (zz0y HB)) : w.heap.size ≤ ad)); replace HB := zA (zG (zz0y HB) hb); clear hb hbox hg; obtain ⟨d6, d7, d8, d9, ea, eb⟩ := zk6 aa.out; have mn := zL aa.out 5) | ((with_reducible refine gate_callee (f := 65) rfl ?_); refine goesL_ (some 11) rfl rfl Try.func65 zz1j rfl #[.slice aq ag.length ar] rfl zz0i ?_; (with_reducible refine (spec_l1Own.calls _ _ ag aG _ ?ak ?al A2.out).mono ?_); (case ak => exact (zz11 bH HB)); (case al => exact bI.out); rintro e w5 ⟨eP, rfl, b7, hb⟩; refine ⟨_, rfl, ?_⟩; have cU := zA (Kd.R_lower b7 (zF (zz0p HB ac))); replace aa := zA (zMp aa.out hb); replace HB := zA (zG (zz0p HB ac) hb); (try clear hb); (try clear hb2); (try clear hk); (try clear hi); (try clear b7))); go_loopg [3, 4] k (fun kq v3 v4 w' => ∃ (ef : List Int) (b4 : Bool), v4 = .bool b4 ∧ Aside0 (spec_l5Null.l0 kq ef b4 ah ai ab ae ag af = some r) ∧ Aside0 (kq ≤ k) ∧ Aside0 (Kd.R (Kd.int .i64) 3 w' w.heap.size (fun _ => True) v3 ef) ∧ Aside0 (w'.heap[ad]? = some (.cells #[.int .i64 ah, .int .i64 ai, (.slice ay ab.length ap), (.slice ax ae.length au), (.slice aq ag.length ar), (.slice av af.length aw)] 29 (0, 0))) ∧ Aside0 (Below w.heap.size w w'))
 case atStart => exact ⟨(aG), (true), zz16, H', ⟨Nat.le_refl _⟩, ⟨zz12 cU⟩, ⟨zz10 aa⟩, ⟨zz0p HB ac⟩⟩
 case round =>
  clear H'; (try clear p2); (try clear d6); (try clear d7); (try clear d8); (try clear d9); (try clear ea); (try clear eb); obtain ⟨ef, b4, rfl, HA, bM, az, aa, HB⟩ := hrel; cases gk with
  | zero => exact absurd HA.out (by simp [spec_l5Null.l0])
  | succ k1 =>
   have H := HA.out; clear HA; simp only [spec_l5Null.l0] at H; by_cases c6 : b4 = true
   · subst c6; rw [if_pos rfl] at H; have H' := zA H; clear H; obtain ⟨i8, i9, ja, jb, jc, jd⟩ := zk6 aa.out; go_wp2; go_loopg [3, 4, 16] k1 (fun kq v3 v4 rS w' => ∃ (eh : List Int) (cQ : Bool) (ba : Int), v4 = .bool cQ ∧ rS = .int .i64 ba ∧ Aside0 (spec_l5Null.l1 kq eh cQ ab (ab.length : Int) ba ah ai ab ae ag af = some r) ∧ Aside0 (kq ≤ k1) ∧ Aside0 (Kd.R (Kd.int .i64) 3 w' w.heap.size (fun _ => True) v3 eh) ∧ Aside0 (w'.heap[ad]? = some (.cells #[.int .i64 ah, .int .i64 ai, (.slice ay ab.length ap), (.slice ax ae.length au), (.slice aq ag.length ar), (.slice av af.length aw)] 29 (0, 0))) ∧ Aside0 (Below w.heap.size w w'))
     case atStart => exact ⟨(ef), (false), (0), zz16, zz16, H', ⟨Nat.le_refl _⟩, ⟨zz12 az⟩, ⟨zz10 aa⟩, ⟨zz0p HB ac⟩⟩
     case round =>
      clear H'; (try clear p2); (try clear c6); (try clear d6); (try clear d7); (try clear d8); (try clear d9); (try clear ea); (try clear eb); (try clear i8); (try clear i9); (try clear ja); (try clear jb); (try clear jc); (try clear jd); (try clear p2); obtain ⟨eh, cQ, ba, rfl, rfl, HA, cN, az, aa, HB⟩ := hrel; cases gk with
      | zero => exact absurd HA.out (by simp [spec_l5Null.l1])
      | succ k2 =>
       have H := HA.out; clear HA; simp only [spec_l5Null.l1] at H; by_cases c8 : ba < (ab.length : Int)
       · rw [if_pos c8] at H; have dY := decide_eq_true c8; clear c8; replace H := zIn H; obtain ⟨c9, H⟩ := H; have eR : decide (0 ≤ ba) = true := decide_eq_true c9; clear c9; replace H := zIn H; obtain ⟨e8, H⟩ := H; have ge : decide (ba < (ab.length : Int)) = true := decide_eq_true e8; clear e8; replace H := zIn H; obtain ⟨fG, H⟩ := H; have hD : decide (0 < ((rd_L1 ab ba).length : Int)) = true := decide_eq_true fG; have og : decide (0 < (rd_L1 ab ba).length) = true := decide_eq_true zz1n; clear fG; replace H := Option.bind_eq_some_iff.mp H; obtain ⟨b8, qM, H⟩ := H; have rD := zA qM; clear qM; by_cases e9 : b8 = true
         · subst e9; rw [if_pos rfl] at H; have H' := zA H; clear H; have b9 : 0 ≤ (ba : Int) := of_decide_eq_true zz1i; have ca : ba < (ab.length : Int) := of_decide_eq_true zz1i; obtain ⟨dN, ey, ez, dA, aD, bs, bt⟩ := at_L1 bm.out ba b9 ca; cases dA; replace aD := (HB.out.cell (World.block_lt_of_cell? w _ aD)).trans aD; have bW := zA bt; have cB := zA bs; clear bt bs; replace b9 := eq_true b9; replace ca := eq_true ca; have f3 : 0 ≤ (0 : Int) := zz1n
           have f4 : 0 < ((rd_L1 ab ba).length : Int) := of_decide_eq_true zz1i; obtain ⟨gy, kr, cc⟩ := Kd.at_int bW.out 0 f3 f4; cases kr; have mo : (0 < (rd_L1 ab ba).length) = True := eq_true zz1n; (try rw [zi0] at cc); (try rw [Addr.add_zero'] at cc); replace cc := (HB.out.cell (World.block_lt_of_cell? w _ cc)).trans cc; replace f3 := eq_true f3; replace f4 := eq_true f4; obtain ⟨ks, kt, mq⟩ := Kd.R_slice az.out; subst mq; go_wp2_with (first | ((with_reducible refine gate_callee (f := 63) rfl ?_); refine goesL_ (some 24) rfl rfl Try.func63 zz1j rfl #[.slice ks eh.length kt, .int .i64 (rd (rd_L1 ab ba) 0)] rfl zz0i ?_; (with_reducible refine (spec_l1Has.calls k2 _ _ eh (rd (rd_L1 ab ba) 0) true _ ?ak ?al rD.out).mono ?_); (case ak => repeat (first | exact (Kd.R_reads' az.out).2.2 | refine zP ?_ _ | refine zQ ?_ _ | refine zR ?_)); (case al => exact (Kd.R_reads' az.out).2.1); rintro e w' ⟨rfl, ⟨nd, rfl⟩⟩; refine ⟨_, rfl, ?_⟩))
           go_roundg k2
           case measure => have := bM.out; have := cN.out; omega
           case rel => exact ⟨(eh), (cQ), (wrap64 (ba + 1)), zz16, zz16, H', ⟨zz1b bM cN⟩, ⟨zz12 az⟩, ⟨zz10 aa⟩, ⟨zz0p HB ac⟩⟩
         · replace e9 := Bool.eq_false_iff.mpr e9; subst e9; rw [if_neg zFt] at H; replace H := zIn H; obtain ⟨f7, H⟩ := H; have f8 : decide (1 < ((rd_L1 ab ba).length : Int)) = true := decide_eq_true f7; have mr : decide (1 < (rd_L1 ab ba).length) = true := decide_eq_true zz1n; clear f7; replace H := Option.bind_eq_some_iff.mp H; obtain ⟨cK, hJ, H⟩ := H; have ms := zA hJ; clear hJ; by_cases f5 : cK = true
           · subst f5; rw [if_pos rfl] at H; replace H := zIn H; obtain ⟨gP, H⟩ := H; have hL : decide (2 < ((rd_L1 ab ba).length : Int)) = true := decide_eq_true gP; have c18b1 : decide (2 < (rd_L1 ab ba).length) = true := decide_eq_true zz1n; clear gP; replace H := Option.bind_eq_some_iff.mp H; obtain ⟨fh, l7, H⟩ := H; have qG := zA l7; clear l7; by_cases hs : fh = true
             · subst hs; rw [if_pos rfl] at H; replace H := Option.bind_eq_some_iff.mp H; obtain ⟨dZ, jB, H⟩ := H; have nu := zA jB; clear jB; have H' := zA H; clear H; have b9 : 0 ≤ (ba : Int) := of_decide_eq_true zz1i; have ca : ba < (ab.length : Int) := of_decide_eq_true zz1i; obtain ⟨dN, ey, ez, dA, aD, bs, bt⟩ := at_L1 bm.out ba b9 ca; cases dA; replace aD := (HB.out.cell (World.block_lt_of_cell? w _ aD)).trans aD; have bW := zA bt; have cB := zA bs; clear bt bs; replace b9 := eq_true b9; replace ca := eq_true ca; have f3 : 0 ≤ (0 : Int) := zz1n
               have f4 : 0 < ((rd_L1 ab ba).length : Int) := of_decide_eq_true zz1i; obtain ⟨gy, kr, cc⟩ := Kd.at_int bW.out 0 f3 f4; cases kr; have mo : (0 < (rd_L1 ab ba).length) = True := eq_true zz1n; (try rw [zi0] at cc); (try rw [Addr.add_zero'] at cc); replace cc := (HB.out.cell (World.block_lt_of_cell? w _ cc)).trans cc; replace f3 := eq_true f3; replace f4 := eq_true f4; obtain ⟨nA, nB, eo22⟩ := Kd.R_slice az.out; subst eo22; go_wp2_with (first | ((with_reducible refine gate_callee (f := 63) rfl ?_); refine goesL_ (some 24) rfl rfl Try.func63 zz1j rfl #[.slice nA eh.length nB, .int .i64 (rd (rd_L1 ab ba) 0)] rfl zz0i ?_; (with_reducible refine (spec_l1Has.calls k2 _ _ eh (rd (rd_L1 ab ba) 0) false _ ?ak ?al rD.out).mono ?_); (case ak => repeat (first | exact (Kd.R_reads' az.out).2.2 | refine zP ?_ _ | refine zQ ?_ _ | refine zR ?_)); (case al => exact (Kd.R_reads' az.out).2.1); rintro e w' ⟨rfl, ⟨nd, rfl⟩⟩; refine ⟨_, rfl, ?_⟩; have fA : 0 ≤ (1 : Int) := zz1n; have fB : 1 < ((rd_L1 ab ba).length : Int) := of_decide_eq_true zz1i; obtain ⟨g7, ku, cd⟩ := Kd.at_int bW.out 1 fA fB; obtain rfl : gy = g7 := (by injection ku); (try simp only [show (1 : Int).toNat = 1 from rfl, Nat.reduceMul, Nat.reduceEqDiff, Go.Addr.add, ↓reduceIte] at cd); have oh : (1 < (rd_L1 ab ba).length) = True := eq_true zz1n; (try rw [zi1] at cd); replace cd := (HB.out.cell (World.block_lt_of_cell? w _ cd)).trans cd; replace fA := eq_true fA; replace fB := eq_true fB) | (go_at_call 63; (with_reducible refine (spec_l1Has.calls k2 _ _ eh (rd (rd_L1 ab ba) 1) true _ ?ak ?al ms.out).mono ?_); (case ak => repeat (first | exact (Kd.R_reads' az.out).2.2 | refine zP ?_ _ | refine zQ ?_ _ | refine zR ?_)); (case al => exact (Kd.R_reads' az.out).2.1); rintro e w' ⟨rfl, ⟨nd, rfl⟩⟩; have jM : 0 ≤ (2 : Int) := zz1n; have jN : 2 < ((rd_L1 ab ba).length : Int) := of_decide_eq_true zz1i; obtain ⟨mt, px, dl⟩ := Kd.at_int bW.out 2 jM jN; obtain rfl : gy = mt := (by injection px); (try simp only [show (2 : Int).toNat = 2 from rfl, Nat.reduceMul, Nat.reduceEqDiff, Go.Addr.add, ↓reduceIte] at dl); have qi110 : (2 < (rd_L1 ab ba).length) = True := eq_true zz1n; (try rw [zi2] at dl); replace dl := (HB.out.cell (World.block_lt_of_cell? w _ dl)).trans dl; replace jM := eq_true jM; replace jN := eq_true jN) | (go_at_call 63; (with_reducible refine (spec_l1Has.calls k2 _ _ eh (rd (rd_L1 ab ba) 2) true _ ?ak ?al qG.out).mono ?_); (case ak => repeat (first | exact (Kd.R_reads' az.out).2.2 | refine zP ?_ _ | refine zQ ?_ _ | refine zR ?_)); (case al => exact (Kd.R_reads' az.out).2.1); rintro e w' ⟨rfl, ⟨nd, rfl⟩⟩; have it : 0 ≤ (0 : Int) := zz1n; have iu : 0 < ((rd_L1 ab ba).length : Int) := of_decide_eq_true zz1i; obtain ⟨hM, py, dm⟩ := Kd.at_int bW.out 0 it iu; obtain rfl : gy = hM := (by injection py); have qi112 : (0 < (rd_L1 ab ba).length) = True := eq_true zz1n; (try rw [zi0] at dm); (try rw [Addr.add_zero'] at dm); replace dm := (HB.out.cell (World.block_lt_of_cell? w _ dm)).trans dm; replace it := eq_true it; replace iu := eq_true iu) | ((with_reducible refine gate_callee (f := 66) rfl ?_); refine goesL_ (some 44) rfl rfl Try.func66 zz1j rfl #[.slice nA eh.length nB, .int .i64 (rd (rd_L1 ab ba) 0)] rfl zz0i ?_; (with_reducible refine (spec_l1Put.calls k2 (fun k_ => some k_ = (.slice nA eh.length nB : Value).ownBlock) (.slice nA eh.length nB) eh (rd (rd_L1 ab ba) 0) dZ w _ ?ak ?al nu.out).mono ?_); (case ak => repeat (first | (with_reducible first | exact HB.out | apply zB | apply zC | apply zD | refine zE ?_ ac.out) | exact HB.out)); (case al => exact Kd.R_tight rfl az.out); rintro e qH ⟨d0, rfl, b7, hb, hkp⟩; refine ⟨_, rfl, ?_⟩; replace aa := zA (blk_kept (zz10 aa) hkp (fun hs_ => (fun e_ => (Kd.R_ne az.out aa.out zz1m) e_) hs_)); have dg := zA (Kd.R_mono (ok' := fun k_ => True) b7 (fun k_ hk_ => trivial)); replace HB := zA (hb); clear az; (try clear hb); (try clear hkp); (try clear b7)))
               go_roundg k2
               case measure => have := bM.out; have := cN.out; omega
               case rel => exact ⟨(dZ), (true), (wrap64 (ba + 1)), zz16, zz16, H', ⟨zz1b bM cN⟩, ⟨zz12 dg⟩, ⟨zz10 aa⟩, ⟨zz0p HB ac⟩⟩
             · replace hs := Bool.eq_false_iff.mpr hs; subst hs; rw [if_neg zFt] at H; have H' := zA H; clear H; have b9 : 0 ≤ (ba : Int) := of_decide_eq_true zz1i; have ca : ba < (ab.length : Int) := of_decide_eq_true zz1i; obtain ⟨dN, ey, ez, dA, aD, bs, bt⟩ := at_L1 bm.out ba b9 ca; cases dA; replace aD := (HB.out.cell (World.block_lt_of_cell? w _ aD)).trans aD; have bW := zA bt; have cB := zA bs; clear bt bs; replace b9 := eq_true b9; replace ca := eq_true ca; have f3 : 0 ≤ (0 : Int) := zz1n
               have f4 : 0 < ((rd_L1 ab ba).length : Int) := of_decide_eq_true zz1i; obtain ⟨gy, kr, cc⟩ := Kd.at_int bW.out 0 f3 f4; cases kr; have mo : (0 < (rd_L1 ab ba).length) = True := eq_true zz1n; (try rw [zi0] at cc); (try rw [Addr.add_zero'] at cc); replace cc := (HB.out.cell (World.block_lt_of_cell? w _ cc)).trans cc; replace f3 := eq_true f3; replace f4 := eq_true f4; obtain ⟨qN, qO, pz⟩ := Kd.R_slice az.out; subst pz; go_wp2_with (first | ((with_reducible refine gate_callee (f := 63) rfl ?_); refine goesL_ (some 24) rfl rfl Try.func63 zz1j rfl #[.slice qN eh.length qO, .int .i64 (rd (rd_L1 ab ba) 0)] rfl zz0i ?_; (with_reducible refine (spec_l1Has.calls k2 _ _ eh (rd (rd_L1 ab ba) 0) false _ ?ak ?al rD.out).mono ?_); (case ak => repeat (first | exact (Kd.R_reads' az.out).2.2 | refine zP ?_ _ | refine zQ ?_ _ | refine zR ?_)); (case al => exact (Kd.R_reads' az.out).2.1); rintro e w' ⟨rfl, ⟨nd, rfl⟩⟩; refine ⟨_, rfl, ?_⟩; have fA : 0 ≤ (1 : Int) := zz1n; have fB : 1 < ((rd_L1 ab ba).length : Int) := of_decide_eq_true zz1i; obtain ⟨g7, ku, cd⟩ := Kd.at_int bW.out 1 fA fB; obtain rfl : gy = g7 := (by injection ku); (try simp only [show (1 : Int).toNat = 1 from rfl, Nat.reduceMul, Nat.reduceEqDiff, Go.Addr.add, ↓reduceIte] at cd); have oh : (1 < (rd_L1 ab ba).length) = True := eq_true zz1n; (try rw [zi1] at cd); replace cd := (HB.out.cell (World.block_lt_of_cell? w _ cd)).trans cd; replace fA := eq_true fA; replace fB := eq_true fB) | (go_at_call 63; (with_reducible refine (spec_l1Has.calls k2 _ _ eh (rd (rd_L1 ab ba) 1) true _ ?ak ?al ms.out).mono ?_); (case ak => repeat (first | exact (Kd.R_reads' az.out).2.2 | refine zP ?_ _ | refine zQ ?_ _ | refine zR ?_)); (case al => exact (Kd.R_reads' az.out).2.1); rintro e w' ⟨rfl, ⟨nd, rfl⟩⟩; have jM : 0 ≤ (2 : Int) := zz1n; have jN : 2 < ((rd_L1 ab ba).length : Int) := of_decide_eq_true zz1i; obtain ⟨mt, px, dl⟩ := Kd.at_int bW.out 2 jM jN; obtain rfl : gy = mt := (by injection px); (try simp only [show (2 : Int).toNat = 2 from rfl, Nat.reduceMul, Nat.reduceEqDiff, Go.Addr.add, ↓reduceIte] at dl); have qi110 : (2 < (rd_L1 ab ba).length) = True := eq_true zz1n; (try rw [zi2] at dl); replace dl := (HB.out.cell (World.block_lt_of_cell? w _ dl)).trans dl; replace jM := eq_true jM; replace jN := eq_true jN) | (go_at_call 63; (with_reducible refine (spec_l1Has.calls k2 _ _ eh (rd (rd_L1 ab ba) 2) false _ ?ak ?al qG.out).mono ?_); (case ak => repeat (first | exact (Kd.R_reads' az.out).2.2 | refine zP ?_ _ | refine zQ ?_ _ | refine zR ?_)); (case al => exact (Kd.R_reads' az.out).2.1); rintro e w' ⟨rfl, ⟨nd, rfl⟩⟩))
               go_roundg k2
               case measure => have := bM.out; have := cN.out; omega
               case rel => exact ⟨(eh), (cQ), (wrap64 (ba + 1)), zz16, zz16, H', ⟨zz1b bM cN⟩, ⟨zz12 az⟩, ⟨zz10 aa⟩, ⟨zz0p HB ac⟩⟩
           · replace f5 := Bool.eq_false_iff.mpr f5; subst f5; rw [if_neg zFt] at H; have H' := zA H; clear H; have b9 : 0 ≤ (ba : Int) := of_decide_eq_true zz1i; have ca : ba < (ab.length : Int) := of_decide_eq_true zz1i; obtain ⟨dN, ey, ez, dA, aD, bs, bt⟩ := at_L1 bm.out ba b9 ca; cases dA; replace aD := (HB.out.cell (World.block_lt_of_cell? w _ aD)).trans aD; have bW := zA bt; have cB := zA bs; clear bt bs; replace b9 := eq_true b9; replace ca := eq_true ca; have f3 : 0 ≤ (0 : Int) := zz1n
             have f4 : 0 < ((rd_L1 ab ba).length : Int) := of_decide_eq_true zz1i; obtain ⟨gy, kr, cc⟩ := Kd.at_int bW.out 0 f3 f4; cases kr; have mo : (0 < (rd_L1 ab ba).length) = True := eq_true zz1n; (try rw [zi0] at cc); (try rw [Addr.add_zero'] at cc); replace cc := (HB.out.cell (World.block_lt_of_cell? w _ cc)).trans cc; replace f3 := eq_true f3; replace f4 := eq_true f4; obtain ⟨Ao25, co25, eo25⟩ := Kd.R_slice az.out; subst eo25; go_wp2_with (first | ((with_reducible refine gate_callee (f := 63) rfl ?_); refine goesL_ (some 24) rfl rfl Try.func63 zz1j rfl #[.slice Ao25 eh.length co25, .int .i64 (rd (rd_L1 ab ba) 0)] rfl zz0i ?_; (with_reducible refine (spec_l1Has.calls k2 _ _ eh (rd (rd_L1 ab ba) 0) false _ ?ak ?al rD.out).mono ?_); (case ak => repeat (first | exact (Kd.R_reads' az.out).2.2 | refine zP ?_ _ | refine zQ ?_ _ | refine zR ?_)); (case al => exact (Kd.R_reads' az.out).2.1); rintro e w' ⟨rfl, ⟨nd, rfl⟩⟩; refine ⟨_, rfl, ?_⟩; have fA : 0 ≤ (1 : Int) := zz1n; have fB : 1 < ((rd_L1 ab ba).length : Int) := of_decide_eq_true zz1i; obtain ⟨g7, ku, cd⟩ := Kd.at_int bW.out 1 fA fB; obtain rfl : gy = g7 := (by injection ku); (try simp only [show (1 : Int).toNat = 1 from rfl, Nat.reduceMul, Nat.reduceEqDiff, Go.Addr.add, ↓reduceIte] at cd); have oh : (1 < (rd_L1 ab ba).length) = True := eq_true zz1n; (try rw [zi1] at cd); replace cd := (HB.out.cell (World.block_lt_of_cell? w _ cd)).trans cd; replace fA := eq_true fA; replace fB := eq_true fB) | (go_at_call 63; (with_reducible refine (spec_l1Has.calls k2 _ _ eh (rd (rd_L1 ab ba) 1) false _ ?ak ?al ms.out).mono ?_); (case ak => repeat (first | exact (Kd.R_reads' az.out).2.2 | refine zP ?_ _ | refine zQ ?_ _ | refine zR ?_)); (case al => exact (Kd.R_reads' az.out).2.1); rintro e w' ⟨rfl, ⟨nd, rfl⟩⟩))
             go_roundg k2
             case measure => have := bM.out; have := cN.out; omega
             case rel => exact ⟨(eh), (cQ), (wrap64 (ba + 1)), zz16, zz16, H', ⟨zz1b bM cN⟩, ⟨zz12 az⟩, ⟨zz10 aa⟩, ⟨zz0p HB ac⟩⟩
       · rw [if_neg c8] at H; have dY := decide_eq_false c8; clear c8; have H' := zA H; clear H; obtain ⟨i0, i1, i2, i3, i4, i5⟩ := zk6 aa.out; go_wp2; go_loopg [3, 4, 49] k2 (fun kq v3 v4 v49 w' => ∃ (fC : List Int) (lC : Bool) (b3 : Int), v4 = .bool lC ∧ v49 = .int .i64 b3 ∧ Aside0 (spec_l5Null.l2 kq fC lC ae (ae.length : Int) b3 ah ai ab ae ag af = some r) ∧ Aside0 (kq ≤ k2) ∧ Aside0 (Kd.R (Kd.int .i64) 3 w' w.heap.size (fun _ => True) v3 fC) ∧ Aside0 (w'.heap[ad]? = some (.cells #[.int .i64 ah, .int .i64 ai, (.slice ay ab.length ap), (.slice ax ae.length au), (.slice aq ag.length ar), (.slice av af.length aw)] 29 (0, 0))) ∧ Aside0 (Below w.heap.size w w'))
         case atStart => exact ⟨(eh), (cQ), (0), zz16, zz16, H', ⟨Nat.le_refl _⟩, ⟨zz12 az⟩, ⟨zz10 aa⟩, ⟨zz0p HB ac⟩⟩
         case round =>
          clear H'; (try clear c1); (try clear p1); (try clear q1); (try clear nC); (try clear rT); (try clear c2); (try clear p2); (try clear c6); (try clear p6); (try clear c8); (try clear dY); (try clear c9); (try clear eR); (try clear e8); (try clear ge); (try clear ju); (try clear jv); (try clear je); (try clear qi10); (try clear fG); (try clear hD); (try clear og); (try clear qq); (try clear qr); (try clear mu); (try clear pA); (try clear e9); (try clear f7); (try clear f8); (try clear mr); (try clear f5); (try clear gP); (try clear hL); (try clear c18b1); (try clear hs); (try clear i0); (try clear i1); (try clear i2); (try clear i3); (try clear i4); (try clear i5); (try clear d6); (try clear d7); (try clear d8); (try clear d9); (try clear ea); (try clear eb); (try clear i8); (try clear i9); (try clear ja); (try clear jb); (try clear jc); (try clear jd); (try clear aD); (try clear cc); (try clear cd); (try clear dl); (try clear dm); (try clear b9); (try clear f3); (try clear fA); (try clear jM); (try clear it); (try clear p2); (try clear ca); (try clear f4); (try clear fB); (try clear jN); (try clear iu); obtain ⟨fC, lC, b3, rfl, rfl, HA, oi, az, aa, HB⟩ := hrel; cases gk with
          | zero => exact absurd HA.out (by simp [spec_l5Null.l2])
          | succ k3 =>
           have H := HA.out; clear HA; simp only [spec_l5Null.l2] at H; by_cases gR : b3 < (ae.length : Int)
           · rw [if_pos gR] at H; have hN := decide_eq_true gR; clear gR; replace H := zIn H; obtain ⟨lY, H⟩ := H; have jI : decide (0 ≤ b3) = true := decide_eq_true lY; clear lY; replace H := zIn H; obtain ⟨pB, H⟩ := H; have c29b0 : decide (b3 < (ae.length : Int)) = true := decide_eq_true pB; clear pB; replace H := zIn H; obtain ⟨jJ, H⟩ := H; have oj : decide (0 < ((rd_L1 ae b3).length : Int)) = true := decide_eq_true jJ; have ol : decide (0 < (rd_L1 ae b3).length) = true := decide_eq_true zz1n; clear jJ; replace H := Option.bind_eq_some_iff.mp H; obtain ⟨kp, qP, H⟩ := H; have rU := zA qP; clear qP; by_cases lD : kp = true
             · subst lD; rw [if_pos rfl] at H; have H' := zA H; clear H; have ei : 0 ≤ (b3 : Int) := of_decide_eq_true zz1i; have ej : b3 < (ae.length : Int) := of_decide_eq_true zz1i; obtain ⟨fL, mv, mw, hO, bk, eI, eJ⟩ := at_L1 bq.out b3 ei ej; cases hO; replace bk := (HB.out.cell (World.block_lt_of_cell? w _ bk)).trans bk; have eK := zA eJ; have k0 := zA eI; clear eJ eI; replace ei := eq_true ei; replace ej := eq_true ej; have ek : 0 ≤ (0 : Int) := zz1n
               have el : 0 < ((rd_L1 ae b3).length : Int) := of_decide_eq_true zz1i; obtain ⟨fM, hP, a6⟩ := Kd.at_int eK.out 0 ek el; cases hP; have jO : (0 < (rd_L1 ae b3).length) = True := eq_true zz1n; (try rw [zi0] at a6); (try rw [Addr.add_zero'] at a6); replace a6 := (HB.out.cell (World.block_lt_of_cell? w _ a6)).trans a6; replace ek := eq_true ek; replace el := eq_true el; obtain ⟨kv, kw, lE⟩ := Kd.R_slice az.out; subst lE; go_wp2_with (first | ((with_reducible refine gate_callee (f := 63) rfl ?_); refine goesL_ (some 57) rfl rfl Try.func63 zz1j rfl #[.slice kv fC.length kw, .int .i64 (rd (rd_L1 ae b3) 0)] rfl zz0i ?_; (with_reducible refine (spec_l1Has.calls k3 _ _ fC (rd (rd_L1 ae b3) 0) true _ ?ak ?al rU.out).mono ?_); (case ak => repeat (first | exact (Kd.R_reads' az.out).2.2 | refine zP ?_ _ | refine zQ ?_ _ | refine zR ?_)); (case al => exact (Kd.R_reads' az.out).2.1); rintro e w' ⟨rfl, ⟨nd, rfl⟩⟩; refine ⟨_, rfl, ?_⟩))
               go_roundg k3
               case measure => have := bM.out; have := cN.out; have := oi.out; omega
               case rel => exact ⟨(fC), (lC), (wrap64 (b3 + 1)), zz16, zz16, H', ⟨zz18 bM cN oi⟩, ⟨zz12 az⟩, ⟨zz10 aa⟩, ⟨zz0p HB ac⟩⟩
             · replace lD := Bool.eq_false_iff.mpr lD; subst lD; rw [if_neg zFt] at H; replace H := zIn H; obtain ⟨qQ, H⟩ := H; have om : decide (1 < ((rd_L1 ae b3).length : Int)) = true := decide_eq_true qQ; have c34b1 : decide (1 < (rd_L1 ae b3).length) = true := decide_eq_true zz1n; clear qQ; replace H := Option.bind_eq_some_iff.mp H; obtain ⟨pw, qR, H⟩ := H; have sk := zA qR; clear qR; by_cases np : pw = true
               · subst np; rw [if_pos rfl] at H; replace H := Option.bind_eq_some_iff.mp H; obtain ⟨nz, qS, H⟩ := H; have rB := zA qS; clear qS; have H' := zA H; clear H; have ei : 0 ≤ (b3 : Int) := of_decide_eq_true zz1i; have ej : b3 < (ae.length : Int) := of_decide_eq_true zz1i; obtain ⟨fL, mv, mw, hO, bk, eI, eJ⟩ := at_L1 bq.out b3 ei ej; cases hO; replace bk := (HB.out.cell (World.block_lt_of_cell? w _ bk)).trans bk; have eK := zA eJ; have k0 := zA eI; clear eJ eI; replace ei := eq_true ei; replace ej := eq_true ej; have ek : 0 ≤ (0 : Int) := zz1n
                 have el : 0 < ((rd_L1 ae b3).length : Int) := of_decide_eq_true zz1i; obtain ⟨fM, hP, a6⟩ := Kd.at_int eK.out 0 ek el; cases hP; have jO : (0 < (rd_L1 ae b3).length) = True := eq_true zz1n; (try rw [zi0] at a6); (try rw [Addr.add_zero'] at a6); replace a6 := (HB.out.cell (World.block_lt_of_cell? w _ a6)).trans a6; replace ek := eq_true ek; replace el := eq_true el; obtain ⟨nD, nE, eo38⟩ := Kd.R_slice az.out; subst eo38; go_wp2_with (first | ((with_reducible refine gate_callee (f := 63) rfl ?_); refine goesL_ (some 57) rfl rfl Try.func63 zz1j rfl #[.slice nD fC.length nE, .int .i64 (rd (rd_L1 ae b3) 0)] rfl zz0i ?_; (with_reducible refine (spec_l1Has.calls k3 _ _ fC (rd (rd_L1 ae b3) 0) false _ ?ak ?al rU.out).mono ?_); (case ak => repeat (first | exact (Kd.R_reads' az.out).2.2 | refine zP ?_ _ | refine zQ ?_ _ | refine zR ?_)); (case al => exact (Kd.R_reads' az.out).2.1); rintro e w' ⟨rfl, ⟨nd, rfl⟩⟩; refine ⟨_, rfl, ?_⟩; have eY : 0 ≤ (1 : Int) := zz1n; have eZ : 1 < ((rd_L1 ae b3).length : Int) := of_decide_eq_true zz1i; obtain ⟨g8, jf, bK⟩ := Kd.at_int eK.out 1 eY eZ; obtain rfl : fM = g8 := (by injection jf); (try simp only [show (1 : Int).toNat = 1 from rfl, Nat.reduceMul, Nat.reduceEqDiff, Go.Addr.add, ↓reduceIte] at bK); have k4 : (1 < (rd_L1 ae b3).length) = True := eq_true zz1n; (try rw [zi1] at bK); replace bK := (HB.out.cell (World.block_lt_of_cell? w _ bK)).trans bK; replace eY := eq_true eY; replace eZ := eq_true eZ) | (go_at_call 63; (with_reducible refine (spec_l1Has.calls k3 _ _ fC (rd (rd_L1 ae b3) 1) true _ ?ak ?al sk.out).mono ?_); (case ak => repeat (first | exact (Kd.R_reads' az.out).2.2 | refine zP ?_ _ | refine zQ ?_ _ | refine zR ?_)); (case al => exact (Kd.R_reads' az.out).2.1); rintro e w' ⟨rfl, ⟨nd, rfl⟩⟩; have jP : 0 ≤ (0 : Int) := zz1n; have jQ : 0 < ((rd_L1 ae b3).length : Int) := of_decide_eq_true zz1i; obtain ⟨on, pC, fi⟩ := Kd.at_int eK.out 0 jP jQ; obtain rfl : fM = on := (by injection pC); have qi121 : (0 < (rd_L1 ae b3).length) = True := eq_true zz1n; (try rw [zi0] at fi); (try rw [Addr.add_zero'] at fi); replace fi := (HB.out.cell (World.block_lt_of_cell? w _ fi)).trans fi; replace jP := eq_true jP; replace jQ := eq_true jQ) | ((with_reducible refine gate_callee (f := 66) rfl ?_); refine goesL_ (some 70) rfl rfl Try.func66 zz1j rfl #[.slice nD fC.length nE, .int .i64 (rd (rd_L1 ae b3) 0)] rfl zz0i ?_; (with_reducible refine (spec_l1Put.calls k3 (fun k_ => some k_ = (.slice nD fC.length nE : Value).ownBlock) (.slice nD fC.length nE) fC (rd (rd_L1 ae b3) 0) nz w _ ?ak ?al rB.out).mono ?_); (case ak => repeat (first | (with_reducible first | exact HB.out | apply zB | apply zC | apply zD | refine zE ?_ ac.out) | exact HB.out)); (case al => exact Kd.R_tight rfl az.out); rintro e sl ⟨v123, rfl, b7, hb, hkp⟩; refine ⟨_, rfl, ?_⟩; replace aa := zA (blk_kept (zz10 aa) hkp (fun hs_ => (fun e_ => (Kd.R_ne az.out aa.out zz1m) e_) hs_)); have HO124 := zA (Kd.R_mono (ok' := fun k_ => True) b7 (fun k_ hk_ => trivial)); replace HB := zA (hb); clear az; (try clear hb); (try clear hkp); (try clear b7)))
                 go_roundg k3
                 case measure => have := bM.out; have := cN.out; have := oi.out; omega
                 case rel => exact ⟨(nz), (true), (wrap64 (b3 + 1)), zz16, zz16, H', ⟨zz18 bM cN oi⟩, ⟨zz12 HO124⟩, ⟨zz10 aa⟩, ⟨zz0p HB ac⟩⟩
               · replace np := Bool.eq_false_iff.mpr np; subst np; rw [if_neg zFt] at H; have H' := zA H; clear H; have ei : 0 ≤ (b3 : Int) := of_decide_eq_true zz1i; have ej : b3 < (ae.length : Int) := of_decide_eq_true zz1i; obtain ⟨fL, mv, mw, hO, bk, eI, eJ⟩ := at_L1 bq.out b3 ei ej; cases hO; replace bk := (HB.out.cell (World.block_lt_of_cell? w _ bk)).trans bk; have eK := zA eJ; have k0 := zA eI; clear eJ eI; replace ei := eq_true ei; replace ej := eq_true ej; have ek : 0 ≤ (0 : Int) := zz1n
                 have el : 0 < ((rd_L1 ae b3).length : Int) := of_decide_eq_true zz1i; obtain ⟨fM, hP, a6⟩ := Kd.at_int eK.out 0 ek el; cases hP; have jO : (0 < (rd_L1 ae b3).length) = True := eq_true zz1n; (try rw [zi0] at a6); (try rw [Addr.add_zero'] at a6); replace a6 := (HB.out.cell (World.block_lt_of_cell? w _ a6)).trans a6; replace ek := eq_true ek; replace el := eq_true el; obtain ⟨Ao40, co40, eo40⟩ := Kd.R_slice az.out; subst eo40; go_wp2_with (first | ((with_reducible refine gate_callee (f := 63) rfl ?_); refine goesL_ (some 57) rfl rfl Try.func63 zz1j rfl #[.slice Ao40 fC.length co40, .int .i64 (rd (rd_L1 ae b3) 0)] rfl zz0i ?_; (with_reducible refine (spec_l1Has.calls k3 _ _ fC (rd (rd_L1 ae b3) 0) false _ ?ak ?al rU.out).mono ?_); (case ak => repeat (first | exact (Kd.R_reads' az.out).2.2 | refine zP ?_ _ | refine zQ ?_ _ | refine zR ?_)); (case al => exact (Kd.R_reads' az.out).2.1); rintro e w' ⟨rfl, ⟨nd, rfl⟩⟩; refine ⟨_, rfl, ?_⟩; have eY : 0 ≤ (1 : Int) := zz1n; have eZ : 1 < ((rd_L1 ae b3).length : Int) := of_decide_eq_true zz1i; obtain ⟨g8, jf, bK⟩ := Kd.at_int eK.out 1 eY eZ; obtain rfl : fM = g8 := (by injection jf); (try simp only [show (1 : Int).toNat = 1 from rfl, Nat.reduceMul, Nat.reduceEqDiff, Go.Addr.add, ↓reduceIte] at bK); have k4 : (1 < (rd_L1 ae b3).length) = True := eq_true zz1n; (try rw [zi1] at bK); replace bK := (HB.out.cell (World.block_lt_of_cell? w _ bK)).trans bK; replace eY := eq_true eY; replace eZ := eq_true eZ) | (go_at_call 63; (with_reducible refine (spec_l1Has.calls k3 _ _ fC (rd (rd_L1 ae b3) 1) false _ ?ak ?al sk.out).mono ?_); (case ak => repeat (first | exact (Kd.R_reads' az.out).2.2 | refine zP ?_ _ | refine zQ ?_ _ | refine zR ?_)); (case al => exact (Kd.R_reads' az.out).2.1); rintro e w' ⟨rfl, ⟨nd, rfl⟩⟩))
                 go_roundg k3
                 case measure => have := bM.out; have := cN.out; have := oi.out; omega
                 case rel => exact ⟨(fC), (lC), (wrap64 (b3 + 1)), zz16, zz16, H', ⟨zz18 bM cN oi⟩, ⟨zz12 az⟩, ⟨zz10 aa⟩, ⟨zz0p HB ac⟩⟩
           · rw [if_neg gR] at H; have hN := decide_eq_false gR; clear gR; have H' := zA H; clear H; go_wp2
             go_roundg k3
             case measure => have := bM.out; have := cN.out; have := oi.out; omega
             case rel => exact ⟨(fC), (lC), zz16, H', ⟨zz18 bM cN oi⟩, ⟨zz12 az⟩, ⟨zz10 aa⟩, ⟨zz0p HB ac⟩⟩
   · replace c6 := Bool.eq_false_iff.mpr c6; subst c6; rw [if_neg zFt] at H; obtain rfl := Option.some.inj H; go_wp2; go_ret; exact ⟨_, zz0z, zz12 az, zz0p HB ac⟩
end Go.Proofs.Ytkocahlifffgjaa.P
namespace Go.Proofs.Ytkocahlifffgjaa.P
open Go.RowKit Go.Proofs.YtkocahlifffgjaaW.PrintWords
set_option linter.unusedVariables false
set_option linter.unusedSimpArgs false
theorem putI_len_new (l : List Int) (n : Int) (h : n ∉ l) : (putI l n).length = l.length + 1 := by
 induction l with
 | nil => rfl
 | cons a l ih =>
  have h1 : n ≠ a := fun e => h (e ▸ List.mem_cons_self)
  have h2 : n ∉ l := fun e => h (List.mem_cons_of_mem _ e)
  simp only [putI]; by_cases c : a < n
  · rw [if_pos c, List.length_cons, ih h2]; rfl
  · rw [if_neg c, if_neg (fun e => h1 e.symm)]; rfl
structure NlI (n : Nat) (es : List Int) (rows : List (List Int)) (out : List Int) : Prop where
 up : UpI out
 lo : ∀ x, x ∈ es → x ∈ out
 hi : ∀ x, x ∈ out → (0 ≤ x ∧ x < n) ∧ NulR es rows x
def clR (out : List Int) (l : List Int) : Prop := rd l 0 ∈ out ∨ ∃ j : Nat, 1 ≤ j ∧ j < l.length ∧ rd l j ∉ out
theorem NlI.len {n : Nat} {es : List Int} {rows : List (List Int)} {out : List Int} (h : NlI n es rows out) : out.length ≤ n := by
 have := upI_len out 0 n h.up (fun x hx => (h.hi x hx).1) zz1n; omega
theorem NlI.put {n : Nat} {es : List Int} {rows : List (List Int)} {out : List Int} (h : NlI n es rows out) {l : List Int} (hl : l ∈ rows) (h0 : 0 ≤ rd l 0 ∧ rd l 0 < n) (hj : ∀ j : Nat, 1 ≤ j → j < l.length → rd l j ∈ out) : NlI n es rows (putI out (rd l 0)) :=
 ⟨upI_put _ _ h.up, fun x hx => (mem_putI _ _ _).2 (.inr (h.lo x hx)), fun x hx => by
  rcases (mem_putI _ _ _).1 hx with e | e
  · rw [e]; exact ⟨h0, .step hl (fun j a b => (h.hi _ (hj j a b)).1.1) (fun j a b => (h.hi _ (hj j a b)).2)⟩
  · exact h.hi x e⟩
theorem NlI.fin {n : Nat} {es : List Int} {rows : List (List Int)} {out : List Int} (h : NlI n es rows out) (hr : rowsIn n rows) (he : ∀ x, x ∈ es → 0 ≤ x ∧ x < n) (hc : ∀ l, l ∈ rows → clR out l) : out = setB (nulV n es rows) := by
 refine setB_of h.up fun x => ?_
 rw [nulV_len hr he]; have key : ∀ x : Int, 0 ≤ x → x < n → ((nulV n es rows).getD x.toNat false = true ↔ NulR es rows x) := fun z h0 h1 => by
  have := nulV_at hr he (i := z.toNat) zz1n; rwa [show ((z.toNat : Nat) : Int) = z by omega] at this
 constructor
 · intro hx; obtain ⟨h1, h2⟩ := h.hi x hx; exact ⟨h1, (key x h1.1 h1.2).2 h2⟩
 · rintro ⟨h1, h2⟩; exact ((key x h1.1 h1.2).1 h2).least (T := fun x => x ∈ out) h.lo (fun l hl hj => (hc l hl).elim id (fun ⟨j, a, b, hn⟩ => absurd (hj j a b).2 hn))
structure PsI (n : Nat) (es : List Int) (rows : List (List Int)) (m0 : Nat) (done : List Int → Prop) (out : List Int) (more : Bool) : Prop where
 ni : NlI n es rows out
 le : m0 ≤ out.length
 lt : more = true → m0 < out.length
 cl : more = false → ∀ l, done l → clR out l
theorem PsI.skip {n : Nat} {es : List Int} {rows : List (List Int)} {m0 : Nat} {done done' : List Int → Prop} {out : List Int} {more : Bool} (h : PsI n es rows m0 done out more) {l : List Int} (hd : ∀ x, done' x → done x ∨ x = l) (hc : clR out l) : PsI n es rows m0 done' out more :=
 ⟨h.ni, h.le, h.lt, fun hm x hx => (hd x hx).elim (h.cl hm x) (fun e => by rw [e]; exact hc)⟩
theorem PsI.put {n : Nat} {es : List Int} {rows : List (List Int)} {m0 : Nat} {done done' : List Int → Prop} {out : List Int} {more : Bool} (h : PsI n es rows m0 done out more) {l : List Int} (hl : l ∈ rows) (h0 : 0 ≤ rd l 0 ∧ rd l 0 < n) (hn : rd l 0 ∉ out) (hj : ∀ j : Nat, 1 ≤ j → j < l.length → rd l j ∈ out) : PsI n es rows m0 done' (putI out (rd l 0)) true := by
 have hlen := putI_len_new out (rd l 0) hn; have := h.le; exact ⟨h.ni.put hl h0 hj, zz1n, fun _ => by omega, fun e => by cases e⟩
def fstOf (rs : List (List Int)) (i : Nat) (l : List Int) : Prop := ∃ j : Nat, j < i ∧ l = rs.getD j []
theorem fstOf_succ {rs : List (List Int)} {i : Nat} {l : List Int} (h : fstOf rs (i + 1) l) : fstOf rs i l ∨ l = rs.getD i [] := by
 obtain ⟨j, hj, e⟩ := h; by_cases c : j = i
 · subst c; exact .inr e
 · exact .inl ⟨j, zz1n, e⟩
theorem fstOf_all {rs : List (List Int)} {l : List Int} (h : l ∈ rs) {i : Nat} (hi : rs.length ≤ i) : fstOf rs i l := by
 obtain ⟨j, hj, rfl⟩ := List.getElem_of_mem h; exact ⟨j, zz1n, by rw [List.getD_eq_getElem?_getD, List.getElem?_eq_getElem hj]; rfl⟩
section
variable {n : Nat} {toks : Int} {ps os : List (List Int)} {es : List Int} {fs : List (List Int)} (ok : OkB (n : Int) toks ps os es)
include ok
theorem null_l2 (ho : os.length ≤ 9223372036854775807) (X : List Int) (m0 : Nat) (h0 : ∀ out more, PsI n es (ps ++ os) m0 (fun l => l ∈ ps ∨ l ∈ os) out more → Ev (fun k => spec_l5Null.l0 k out more (n : Int) toks ps os es fs) X) (d : Nat) : ∀ (i : Nat) (out : List Int) (more : Bool), i ≤ os.length → os.length - i = d → PsI n es (ps ++ os) m0 (fun l => l ∈ ps ∨ fstOf os i l) out more →
 Ev (fun k => spec_l5Null.l2 k out more os os.length i (n : Int) toks ps os es fs) X := by
 have hn40 := ok.n
 induction d with
 | zero =>
  intro i out more h1 hd hp; obtain ⟨K, h⟩ := h0 out more ⟨hp.ni, hp.le, hp.lt, fun hm l hl => hp.cl hm l (hl.imp id fun h => fstOf_all h zz1n)⟩; dsimp only at h; refine ⟨K + 1, fun k hk => ?_⟩; dsimp only; obtain ⟨k, rfl⟩ : ∃ m, k = m + 1 := ⟨k - 1, zz1n⟩
  simp only [spec_l5Null.l2]; rw [if_neg zz1n]; exact h k zz1n
 | succ d ih =>
  intro i out more h1 hd hp; have hil : i < os.length := by omega
  have hlen := hp.ni.len; have hmem : rd_L1 os i ∈ os := by unfold rd_L1; rw [Int.toNat_natCast, List.getD_eq_getElem?_getD, List.getElem?_eq_getElem hil]; exact List.getElem_mem hil
  have ew : wrap64 ((i : Int) + 1) = ((i + 1 : Nat) : Int) := wsuccL hil ho; have eg : os.getD i [] = rd_L1 os i := rfl; obtain ⟨y2, yin⟩ := ok.o _ hmem; have skip : clR out (rd_L1 os i) → Ev (fun k => spec_l5Null.l2 k out more os os.length (wrap64 ((i : Int) + 1)) (n : Int) toks ps os es fs) X := fun hc => by
   rw [ew]; exact ih (i + 1) out more zz1n zz1n (hp.skip (l := rd_L1 os i) (fun x hx => hx.elim (fun h => .inl (.inl h)) (fun h => (fstOf_succ h).imp .inr (fun e => by rw [e, eg]))) hc)
  have put : rd (rd_L1 os i) 0 ∉ out → rd (rd_L1 os i) 1 ∈ out → Ev (fun k => spec_l5Null.l2 k (putI out (rd (rd_L1 os i) 0)) true os os.length (wrap64 ((i : Int) + 1)) (n : Int) toks ps os es fs) X := fun hn h1 => by
   rw [ew]; exact ih (i + 1) _ true zz1n zz1n (hp.put (List.mem_append_right _ hmem) yin.1 hn (fun j a b => by rw [show j = 1 by omega]; exact h1))
  obtain ⟨y, hy⟩ : ∃ y, y = rd_L1 os i := ⟨_, rfl⟩
  rw [← hy] at y2 skip put; by_cases c0 : rd y 0 ∈ out
  · obtain ⟨K, h⟩ := skip (.inl c0); dsimp only at h; refine ⟨K + 100, fun k hk => ?_⟩; dsimp only; obtain ⟨k, rfl⟩ : ∃ m, k = m + 1 := ⟨k - 1, zz1n⟩
    simp only [spec_l5Null.l2]; rw [if_pos zz1n, if_pos zz1n, if_pos zz1n, ← hy, if_pos zz1n, has_eq out _ zz1n k zz1n, decide_eq_true c0]; exact h k zz1n
  · by_cases c1 : rd y 1 ∈ out
    · obtain ⟨K, h⟩ := put c0 c1; dsimp only at h; refine ⟨K + 100, fun k hk => ?_⟩; dsimp only; obtain ⟨k, rfl⟩ : ∃ m, k = m + 1 := ⟨k - 1, zz1n⟩
      simp only [spec_l5Null.l2]; rw [if_pos zz1n, if_pos zz1n, if_pos zz1n, ← hy, if_pos zz1n, has_eq out _ zz1n k zz1n, has_eq out _ zz1n k zz1n, decide_eq_false c0, decide_eq_true c1, put_eq out _ zz1n k zz1n]; simp only [Option.bind_some]; rw [if_neg zz1m, if_pos zz1n, if_pos trivial]; exact h k zz1n
    · obtain ⟨K, h⟩ := skip (.inr ⟨1, zz1n, zz1n, c1⟩); dsimp only at h; refine ⟨K + 100, fun k hk => ?_⟩; dsimp only; obtain ⟨k, rfl⟩ : ∃ m, k = m + 1 := ⟨k - 1, zz1n⟩
      simp only [spec_l5Null.l2]; rw [if_pos zz1n, if_pos zz1n, if_pos zz1n, ← hy, if_pos zz1n, has_eq out _ zz1n k zz1n, has_eq out _ zz1n k zz1n, decide_eq_false c0, decide_eq_false c1]; simp only [Option.bind_some]; rw [if_neg zz1m, if_pos zz1n, if_neg zz1m]; exact h k zz1n
theorem null_l1 (hpl : ps.length ≤ 9223372036854775807) (X : List Int) (m0 : Nat) (h0 : ∀ out more, PsI n es (ps ++ os) m0 (fun l => l ∈ ps ∨ fstOf os 0 l) out more → Ev (fun k => spec_l5Null.l2 k out more os os.length 0 (n : Int) toks ps os es fs) X) (d : Nat) : ∀ (i : Nat) (out : List Int) (more : Bool), i ≤ ps.length → ps.length - i = d → PsI n es (ps ++ os) m0 (fun l => fstOf ps i l) out more →
 Ev (fun k => spec_l5Null.l1 k out more ps ps.length i (n : Int) toks ps os es fs) X := by
 have hn40 := ok.n
 induction d with
 | zero =>
  intro i out more h1 hd hp; obtain ⟨K, h⟩ := h0 out more ⟨hp.ni, hp.le, hp.lt, fun hm l hl => hp.cl hm l (hl.elim (fun h => fstOf_all h zz1n) (fun ⟨j, hj, _⟩ => by omega))⟩; dsimp only at h; refine ⟨K + 1, fun k hk => ?_⟩; dsimp only; obtain ⟨k, rfl⟩ : ∃ m, k = m + 1 := ⟨k - 1, zz1n⟩
  simp only [spec_l5Null.l1]; rw [if_neg zz1n]; exact h k zz1n
 | succ d ih =>
  intro i out more h1 hd hp; have hil : i < ps.length := by omega
  have hlen := hp.ni.len; have hmem : rd_L1 ps i ∈ ps := by unfold rd_L1; rw [Int.toNat_natCast, List.getD_eq_getElem?_getD, List.getElem?_eq_getElem hil]; exact List.getElem_mem hil
  have ew : wrap64 ((i : Int) + 1) = ((i + 1 : Nat) : Int) := wsuccL hil hpl; have eg : ps.getD i [] = rd_L1 ps i := rfl; obtain ⟨y2, yin⟩ := ok.p _ hmem; have skip : clR out (rd_L1 ps i) → Ev (fun k => spec_l5Null.l1 k out more ps ps.length (wrap64 ((i : Int) + 1)) (n : Int) toks ps os es fs) X := fun hc => by
   rw [ew]; exact ih (i + 1) out more zz1n zz1n (hp.skip (l := rd_L1 ps i) (fun x hx => (fstOf_succ hx).imp id (fun e => by rw [e, eg])) hc)
  have put : rd (rd_L1 ps i) 0 ∉ out → rd (rd_L1 ps i) 1 ∈ out → rd (rd_L1 ps i) 2 ∈ out → Ev (fun k => spec_l5Null.l1 k (putI out (rd (rd_L1 ps i) 0)) true ps ps.length (wrap64 ((i : Int) + 1)) (n : Int) toks ps os es fs) X := fun hn h1 h2 => by
   rw [ew]; exact ih (i + 1) _ true zz1n zz1n (hp.put (List.mem_append_left _ hmem) yin.1 hn (fun j a b => by
    have : j = 1 ∨ j = 2 := by omega
    rcases this with e | e
    · rw [e]; exact h1
    · rw [e]; exact h2))
  obtain ⟨y, hy⟩ : ∃ y, y = rd_L1 ps i := ⟨_, rfl⟩
  rw [← hy] at y2 skip put; by_cases c0 : rd y 0 ∈ out
  · obtain ⟨K, h⟩ := skip (.inl c0); dsimp only at h; refine ⟨K + 100, fun k hk => ?_⟩; dsimp only; obtain ⟨k, rfl⟩ : ∃ m, k = m + 1 := ⟨k - 1, zz1n⟩
    simp only [spec_l5Null.l1]; rw [if_pos zz1n, if_pos zz1n, if_pos zz1n, ← hy, if_pos zz1n, has_eq out _ zz1n k zz1n, decide_eq_true c0]; exact h k zz1n
  · by_cases c1 : rd y 1 ∈ out
    · by_cases c2 : rd y 2 ∈ out
      · obtain ⟨K, h⟩ := put c0 c1 c2; dsimp only at h; refine ⟨K + 100, fun k hk => ?_⟩; dsimp only; obtain ⟨k, rfl⟩ : ∃ m, k = m + 1 := ⟨k - 1, zz1n⟩
        simp only [spec_l5Null.l1]; rw [if_pos zz1n, if_pos zz1n, if_pos zz1n, ← hy, if_pos zz1n, has_eq out _ zz1n k zz1n, has_eq out _ zz1n k zz1n, has_eq out _ zz1n k zz1n, decide_eq_false c0, decide_eq_true c1, decide_eq_true c2, put_eq out _ zz1n k zz1n]; simp only [Option.bind_some]; rw [if_neg zz1m, if_pos zz1n, if_pos trivial, if_pos zz1n, if_pos trivial]; exact h k zz1n
      · obtain ⟨K, h⟩ := skip (.inr ⟨2, zz1n, zz1n, c2⟩); dsimp only at h; refine ⟨K + 100, fun k hk => ?_⟩; dsimp only; obtain ⟨k, rfl⟩ : ∃ m, k = m + 1 := ⟨k - 1, zz1n⟩
        simp only [spec_l5Null.l1]; rw [if_pos zz1n, if_pos zz1n, if_pos zz1n, ← hy, if_pos zz1n, has_eq out _ zz1n k zz1n, has_eq out _ zz1n k zz1n, has_eq out _ zz1n k zz1n, decide_eq_false c0, decide_eq_true c1, decide_eq_false c2]; simp only [Option.bind_some]; rw [if_neg zz1m, if_pos zz1n, if_pos trivial, if_pos zz1n, if_neg zz1m]; exact h k zz1n
    · obtain ⟨K, h⟩ := skip (.inr ⟨1, zz1n, zz1n, c1⟩); dsimp only at h; refine ⟨K + 100, fun k hk => ?_⟩; dsimp only; obtain ⟨k, rfl⟩ : ∃ m, k = m + 1 := ⟨k - 1, zz1n⟩
      simp only [spec_l5Null.l1]; rw [if_pos zz1n, if_pos zz1n, if_pos zz1n, ← hy, if_pos zz1n, has_eq out _ zz1n k zz1n, has_eq out _ zz1n k zz1n, decide_eq_false c0, decide_eq_false c1]; simp only [Option.bind_some]; rw [if_neg zz1m, if_pos zz1n, if_neg zz1m]; exact h k zz1n
theorem null_l0 (hpl : ps.length ≤ 9223372036854775807) (hol : os.length ≤ 9223372036854775807) (d : Nat) : ∀ out : List Int, NlI n es (ps ++ os) out → n - out.length ≤ d →
 Ev (fun k => spec_l5Null.l0 k out true (n : Int) toks ps os es fs) (setB (nulV n es (ps ++ os))) := by
 induction d with
 | zero =>
  intro out h hd; refine (Ev.step (f := fun k => spec_l5Null.l1 k out false ps ps.length 0 (n : Int) toks ps os es fs) (fun k => by simp only [spec_l5Null.l0]; rw [if_pos trivial]) ?_); refine null_l1 ok hpl _ out.length (fun out1 m1 h1 => null_l2 ok hol _ out.length (fun out2 m2 h2 => ?_) os.length 0 out1 m1 (Nat.zero_le _) rfl h1) ps.length 0 out false (Nat.zero_le _) rfl ⟨h, Nat.le_refl _, (fun e => by cases e), fun _ l ⟨j, hj, _⟩ => by omega⟩; cases m2 with
  | true => have a1 := h2.lt rfl; have a2 := h2.ni.len; omega
  | false =>
   refine ⟨1, fun k hk => ?_⟩; dsimp only; obtain ⟨k, rfl⟩ : ∃ m, k = m + 1 := ⟨k - 1, zz1n⟩
   simp only [spec_l5Null.l0]; rw [if_neg zz1m, h2.ni.fin (okB_rows ok) ok.e (fun l hl => h2.cl rfl l (List.mem_append.1 hl))]
 | succ d ih =>
  intro out h hd; refine (Ev.step (f := fun k => spec_l5Null.l1 k out false ps ps.length 0 (n : Int) toks ps os es fs) (fun k => by simp only [spec_l5Null.l0]; rw [if_pos trivial]) ?_); refine null_l1 ok hpl _ out.length (fun out1 m1 h1 => null_l2 ok hol _ out.length (fun out2 m2 h2 => ?_) os.length 0 out1 m1 (Nat.zero_le _) rfl h1) ps.length 0 out false (Nat.zero_le _) rfl ⟨h, Nat.le_refl _, (fun e => by cases e), fun _ l ⟨j, hj, _⟩ => by omega⟩; cases m2 with
  | true => exact ih out2 h2.ni (by have a1 := h2.lt rfl; omega)
  | false =>
   refine ⟨1, fun k hk => ?_⟩; dsimp only; obtain ⟨k, rfl⟩ : ∃ m, k = m + 1 := ⟨k - 1, zz1n⟩
   simp only [spec_l5Null.l0]; rw [if_neg zz1m, h2.ni.fin (okB_rows ok) ok.e (fun l hl => h2.cl rfl l (List.mem_append.1 hl))]
theorem l5Null_ev (hpl : ps.length ≤ 9223372036854775807) (hol : os.length ≤ 9223372036854775807) : Ev (fun k => spec_l5Null.f k (n : Int) toks ps os es fs) (setB (nulV n es (ps ++ os))) := by
 have h40 := ok.n; have hl : es.length ≤ n := by
  have := upI_len es 0 n ok.eu (fun x hx => ok.e x hx) zz1n; omega
 obtain ⟨K, h⟩ := null_l0 (fs := fs) ok hpl hol n es ⟨ok.eu, fun _ h => h, fun x hx => ⟨ok.e x hx, .base hx⟩⟩ zz1n; dsimp only at h; refine ⟨K, fun k hk => ?_⟩; dsimp only; unfold spec_l5Null.f; rw [own_eq es zz1n]; exact h k hk
end
def keepA (xs : List (List Int)) (j : Nat) : Bool := decide (j = 0 ∨ xs.getD j [] ≠ xs.getD (j - 1) [])
def dedupZ (xs : List (List Int)) (m : Nat) : List (List Int × Nat) := (xs.zipIdx.take m).filter fun z => keepA xs z.2
def dedupA (xs : List (List Int)) : List (List Int) := (dedupZ xs xs.length).map Prod.fst
theorem zipAt {xs : List (List Int)} {j : Nat} (hj : j < xs.length) : xs.zipIdx[j]? = some (xs.getD j [], j) := by
 rw [List.getElem?_zipIdx, List.getElem?_eq_getElem hj, Nat.zero_add, List.getD_eq_getElem?_getD, List.getElem?_eq_getElem hj]; rfl
theorem dedupZ_succ {xs : List (List Int)} {j : Nat} (hj : j < xs.length) : dedupZ xs (j + 1) = dedupZ xs j ++ if keepA xs j = true then [(xs.getD j [], j)] else [] := by
 unfold dedupZ; rw [List.take_add_one, zipAt hj, List.filter_append]; congr 1; cases h : keepA xs j with
 | true => simp [h]
 | false => simp [h]
def CmpI (xs : List (List Int)) (zs : List (List Int × Nat)) (i j : Nat) : Prop :=
 zs.length = xs.length ∧ i + 1 ≤ j ∧ j ≤ xs.length ∧ zs.take i = dedupZ xs j ∧ zs.drop (j - 1) = xs.zipIdx.drop (j - 1)
theorem cmpI_start {xs : List (List Int)} {k : Nat} (h1 : 1 ≤ k) (hk : k < xs.length) (h0 : ∀ j, 1 ≤ j → j < k → xs.getD j [] ≠ xs.getD (j - 1) []) (he : xs.getD k [] = xs.getD (k - 1) []) : CmpI xs xs.zipIdx k (k + 1) := by
 have hl : xs.zipIdx.length = xs.length := List.length_zipIdx; refine ⟨hl, Nat.le_refl _, hk, ?_, rfl⟩; have e : keepA xs k = false := by unfold keepA; exact decide_eq_false (fun h => h.elim zz1n (fun h => h he))
 rw [dedupZ_succ hk, e, if_neg zz1m, List.append_nil]; unfold dedupZ; rw [List.filter_eq_self.2]; intro z hz; obtain ⟨j, hj, rfl⟩ := List.getElem_of_mem hz; rw [List.length_take] at hj; have hz2 : ((xs.zipIdx.take k)[j]'(by rw [List.length_take]; exact hj)).2 = j := by simp
 rw [hz2]; unfold keepA; refine decide_eq_true ?_; by_cases c : j = 0
 · exact .inl c
 · exact .inr (h0 j zz1n zz1n)
theorem cmpI_at {xs : List (List Int)} {zs : List (List Int × Nat)} {i j : Nat} (h : CmpI xs zs i j) (m : Nat) (hm : j - 1 ≤ m) (hl : m < xs.length) : zs[m]? = some (xs.getD m [], m) := by
 obtain ⟨h1, h2, h3, h4, h5⟩ := h; have := congrArg (fun l => l[m - (j - 1)]?) h5; simp only [List.getElem?_drop, show j - 1 + (m - (j - 1)) = m by omega] at this; rw [this, zipAt hl]
theorem cmpI_skip {xs : List (List Int)} {zs : List (List Int × Nat)} {i j : Nat} (h : CmpI xs zs i j) (hj : j < xs.length) (he : xs.getD j [] = xs.getD (j - 1) []) : CmpI xs zs i (j + 1) := by
 obtain ⟨h1, h2, h3, h4, h5⟩ := h; refine ⟨h1, zz1n, hj, ?_, ?_⟩
 · have e : keepA xs j = false := by unfold keepA; exact decide_eq_false (fun h => h.elim zz1n (fun h => h he))
   rw [dedupZ_succ hj, e, if_neg zz1m, List.append_nil, h4]
 · have : j + 1 - 1 = j - 1 + 1 := by omega
   rw [this, ← List.drop_drop, h5, List.drop_drop]
theorem cmpI_keep {xs : List (List Int)} {zs : List (List Int × Nat)} {i j : Nat} (h : CmpI xs zs i j) (hj : j < xs.length) (he : xs.getD j [] ≠ xs.getD (j - 1) []) : CmpI xs (zs.set i (xs.getD j [], j)) (i + 1) (j + 1) := by
 obtain ⟨h1, h2, h3, h4, h5⟩ := h; refine ⟨by rw [List.length_set]; exact h1, zz1n, hj, ?_, ?_⟩
 · have e : keepA xs j = true := by unfold keepA; exact decide_eq_true (.inr he)
   rw [dedupZ_succ hj, e, if_pos rfl, ← h4, List.take_add_one, List.take_set, List.set_eq_of_length_le zz1c, List.getElem?_set_self zz1n]; rfl
 · have : j + 1 - 1 = j - 1 + 1 := by omega
   rw [this, List.drop_set_of_lt zz1n, ← List.drop_drop, h5, List.drop_drop]
theorem zipIdx_fst_take {xs : List (List Int)} (m : Nat) : ((xs.zipIdx.take m).map Prod.snd).Nodup := by
 refine List.Nodup.sublist (List.Sublist.map _ (List.take_sublist _ _)) ?_; rw [List.zipIdx_map_snd]; exact List.nodup_range'
theorem dedupZ_nodup (xs : List (List Int)) (m : Nat) : ((dedupZ xs m).map Prod.snd).Nodup := List.Nodup.sublist (List.Sublist.map _ List.filter_sublist) (zipIdx_fst_take m)
theorem cmpI_end {xs : List (List Int)} {zs : List (List Int × Nat)} {i j : Nat} (h : CmpI xs zs i j) (hj : ¬ j < xs.length) : (zs.take i).map Prod.fst = dedupA xs ∧ ((zs.take i).map Prod.snd).Nodup := by
 obtain ⟨h1, h2, h3, h4, h5⟩ := h; have e : j = xs.length := by omega
 subst e; rw [h4]; exact ⟨rfl, dedupZ_nodup xs _⟩
theorem dedupA_self {xs : List (List Int)} (h0 : ∀ j, 1 ≤ j → j < xs.length → xs.getD j [] ≠ xs.getD (j - 1) []) : dedupA xs = xs := by
 unfold dedupA dedupZ; rw [List.filter_eq_self.2, List.take_of_length_le (by rw [List.length_zipIdx]; exact Nat.le_refl _), List.zipIdx_map_fst]; intro z hz; obtain ⟨j, hj, rfl⟩ := List.getElem_of_mem hz; rw [List.length_take, List.length_zipIdx] at hj; have hz2 : ((xs.zipIdx.take xs.length)[j]'(by rw [List.length_take, List.length_zipIdx]; exact hj)).2 = j := by simp
 rw [hz2]; unfold keepA; refine decide_eq_true ?_; by_cases c : j = 0
 · exact .inl c
 · exact .inr (h0 j zz1n zz1n)
theorem mem_dedupZ {xs : List (List Int)} {m j : Nat} (hj : j < m) (hl : j < xs.length) (hk : keepA xs j = true) : xs.getD j [] ∈ (dedupZ xs m).map Prod.fst := by
 refine List.mem_map.2 ⟨(xs.getD j [], j), ?_, rfl⟩; unfold dedupZ; refine List.mem_filter.2 ⟨?_, hk⟩; have h1 : (xs.zipIdx.take m)[j]? = some (xs.getD j [], j) := by rw [List.getElem?_take_of_lt hj, zipAt hl]
 exact List.mem_of_getElem? h1
theorem mem_dedupA (xs : List (List Int)) (x : List Int) : x ∈ dedupA xs ↔ x ∈ xs := by
 constructor
 · intro h; obtain ⟨z, hz, rfl⟩ := List.mem_map.1 h; have h1 := List.mem_of_mem_take (List.mem_filter.1 hz).1; have h2 : z.1 ∈ xs.zipIdx.map Prod.fst := List.mem_map.2 ⟨z, h1, rfl⟩; rwa [List.zipIdx_map_fst] at h2
 · intro h; obtain ⟨j, hj, rfl⟩ := List.getElem_of_mem h; have key : ∀ j, j < xs.length → xs.getD j [] ∈ dedupA xs := by
    intro j
    induction j with
    | zero => intro hj; exact mem_dedupZ hj hj (by unfold keepA; exact decide_eq_true (.inl rfl))
    | succ j ih =>
     intro hj; by_cases c : xs.getD (j + 1) [] = xs.getD j []
     · rw [c]; exact ih zz1n
     · exact mem_dedupZ hj hj (by unfold keepA; exact decide_eq_true (.inr c))
   have := key j hj; rwa [List.getD_eq_getElem?_getD, List.getElem?_eq_getElem hj] at this
theorem dedupA_up {xs : List (List Int)} (hs : xs.Pairwise (fun a b => ¬ cmpL b a < 0)) : UpL (dedupA xs) := by
 have hg : ∀ j, (hj : j < xs.length) → xs.getD j [] = xs[j] := fun j hj => by rw [List.getD_eq_getElem?_getD, List.getElem?_eq_getElem hj]; rfl
 have hle : ∀ i j, i ≤ j → j < xs.length → ¬ cmpL (xs.getD j []) (xs.getD i []) < 0 := fun i j hij hj => by
  by_cases e : i = j
  · subst e; rw [cmpL_self]; omega
  · rw [hg j hj, hg i zz1n]; exact List.pairwise_iff_getElem.1 hs i j zz1n hj zz1n
 have hlt : ∀ i j, i < j → j < xs.length → keepA xs j = true → cmpL (xs.getD i []) (xs.getD j []) < 0 := fun i j hij hj hk => by
  unfold keepA at hk; have hk := of_decide_eq_true hk; have hne : xs.getD j [] ≠ xs.getD (j - 1) [] := hk.elim (fun h => by omega) id; have h1 : cmpL (xs.getD (j - 1) []) (xs.getD j []) < 0 := cmpL_flip (hle (j - 1) j zz1n hj) hne; by_cases e : xs.getD i [] = xs.getD (j - 1) []
  · rw [e]; exact h1
  · exact cmpL_trans _ _ _ (cmpL_flip (hle i (j - 1) zz1n zz1n) (fun h => e h.symm)) h1
 have hp : xs.zipIdx.Pairwise (fun z z' => keepA xs z'.2 = true → cmpL z.1 z'.1 < 0) := by
  rw [List.pairwise_iff_getElem]; intro i j hi hj hij; have hj' : j < xs.length := by simpa using hj
  have := hlt i j hij hj'; rw [hg j hj', hg i zz1n] at this; simpa using this
 unfold UpL dedupA dedupZ; rw [List.pairwise_map]; refine ((hp.sublist (List.take_sublist _ _)).filter _).imp_of_mem ?_; intro a b _ hb h; exact h (List.mem_filter.1 hb).2
theorem dedup_sort {xs ys : List (List Int)} (hp : xs.Perm ys) (hs : xs.Pairwise (fun a b => ¬ cmpL b a < 0)) : dedupA xs = sortL ys := upL_of (dedupA_up hs) fun x => (mem_dedupA xs x).trans hp.mem_iff
theorem R_head {α : Type} {d : Kd α} {W : World} {base : Nat} {ok : Nat → Prop} {e g n cap : Nat} {xs : List α} (h : d.R e W base ok (.slice (some ⟨g, 0, none⟩) n cap) xs) (m : Nat) (hm : m ≤ xs.length) :
 d.R e W base ok (.slice (some ⟨g, 0, none⟩) m cap) (xs.take m) := by
 obtain ⟨hok, inner, ⟨hlen, hrow⟩, hr1, hr2⟩ := h; rcases hrow with ⟨hv, _⟩ | ⟨g', cap', cur, hv, hbg, hh, hnc, hcm, hcs, ht⟩
 · cases hv
 injection hv with ha0 hn0 hc0; injection ha0 with ha0; injection ha0 with hg0; subst hg0; subst hc0; have hl : (xs.take m).length = m := by rw [List.length_take]; omega
 have hms : m * d.sz ≤ xs.length * d.sz := Nat.mul_le_mul_right _ hm; refine ⟨hok, inner.take (m * d.sz), ⟨by rw [List.length_take, hl, hlen]; exact Nat.min_eq_left hms, .inr ⟨g, cap, cur, by rw [hl], hbg, hh, by rw [hl]; omega, hcm, hcs, by rw [hl, ← ht, List.take_take, Nat.min_eq_left hms]⟩⟩, by rw [List.length_take, hl, hr1]; exact Nat.min_eq_left hms, fun q p hq => ?_⟩; obtain ⟨hq1, _⟩ := List.getElem?_eq_some_iff.1 hq; rw [hl] at hq1; rw [List.getElem?_take, if_pos hq1] at hq; have hx := hr2 q p hq; have hqs : q * d.sz + d.sz ≤ m * d.sz := by rw [← Nat.succ_mul]; exact Nat.mul_le_mul_right _ hq1
 rw [List.drop_take, List.take_take, Nat.min_eq_left zz1n]; exact hx
theorem R_tail {α : Type} {d : Kd α} {W : World} {base : Nat} {ok : Nat → Prop} {e g n cap : Nat} {xs : List α} (h : d.R e W base ok (.slice (some ⟨g, 0, none⟩) n cap) xs) (o : Nat) (ho : xs.length * d.sz ≤ o) (vs : List Value) (hvs : o + vs.length ≤ cap * d.sz) :
 d.R e (W.setCells g o vs) base ok (.slice (some ⟨g, 0, none⟩) n cap) xs := by
 obtain ⟨hok, inner, ⟨hlen, hrow⟩, hr1, hr2⟩ := h; rcases hrow with ⟨hv, _⟩ | ⟨g', cap', cur, hv, hbg, hh, hnc, hcm, hcs, ht⟩
 · cases hv
 injection hv with ha0 hn0 hc0; injection ha0 with ha0; injection ha0 with hg0; subst hg0; subst hc0; obtain ⟨cur', h3, h4, h5⟩ := setCells_row vs o W cur hh zz1n; refine ⟨hok, inner, ⟨hlen, .inr ⟨g, cap, cur', by rw [← hn0], hbg, h3, hnc, hcm, by rw [h4, hcs], ?_⟩⟩, hr1, fun q p hq => d.M_move (fun k hk => setCells_far vs o k (fun e => hk.2 (by rw [e]; rfl))) (hr2 q p hq)⟩; have hcl : cur.toList.length = cap * d.sz := by rw [← hcs]; rfl
 have h6 : (cur.toList.take o).length = o := by rw [List.length_take, hcl]; omega
 rw [h5, List.take_append_of_le_length (by rw [List.length_append, h6]; omega), List.take_append_of_le_length (by rw [h6]; exact ho), List.take_take, Nat.min_eq_left ho, ht]
theorem S_part {α : Type} {d : Kd α} {f : Nat → Nat} {W : World} {base : Nat} {ok : Nat → Prop} {e : Nat} {v : Value} {zs : List (α × Nat)} (h : (Kd.tag f d).R e W base ok v zs) (hd : (zs.map Prod.snd).Nodup) : Kd.S d e W base ok v (zs.map Prod.fst) := by
 obtain ⟨hok, inner, ho, hr1, hr2⟩ := h; refine ⟨fun b => (zs.map Prod.snd).idxOf (f b), hok, inner, by rw [List.length_zipIdx, List.length_map]; exact ho, by rw [List.length_zipIdx, List.length_map]; exact hr1, fun q p hq => ?_⟩; rw [List.getElem?_zipIdx, Nat.zero_add] at hq; obtain ⟨x, hx, rfl⟩ := Option.map_eq_some_iff.1 hq; rw [List.getElem?_map] at hx; obtain ⟨z, hz, rfl⟩ := Option.map_eq_some_iff.1 hx; refine d.M_mono (fun b hb => ⟨hb.1, ?_⟩) (hr2 q z hz); have h2 : f b = z.2 := hb.2; show (zs.map Prod.snd).idxOf (f b) = q; obtain ⟨hq1, hq2⟩ := List.getElem?_eq_some_iff.1 hz; have h3 : (zs.map Prod.snd)[q]'(by simpa using hq1) = z.2 := by rw [List.getElem_map, hq2]
 rw [h2, ← h3]; exact List.Nodup.idxOf_getElem hd q (by simpa using hq1)
def zc (n : Nat) : List Value := (Builtin.zeroCells #[.int .i64 0, .slice none 0 0] n).toList
theorem take1_of {β : Type} (l : List β) (k : Nat) (a : β) (ha : l[k]? = some a) : (l.drop k).take 1 = [a] := by
 obtain ⟨h1, h2⟩ := List.getElem?_eq_some_iff.1 ha; rw [List.drop_eq_getElem_cons h1, h2]; rfl
theorem take1_ne {β : Type} (l : List β) (q i : Nat) (a : β) (hne : q ≠ i) : ((l.set i a).drop (q * 1)).take 1 = (l.drop (q * 1)).take 1 := by
 apply List.ext_getElem?; intro r; rw [List.getElem?_take, List.getElem?_take]; by_cases hr : r < 1
 · rw [if_pos hr, if_pos hr, List.getElem?_drop, List.getElem?_drop, List.getElem?_set_ne zz1n]
 · rw [if_neg hr, if_neg hr]
theorem R_one {α : Type} {d : Kd α} (hd : d.sz = 1) {W : World} {base : Nat} {ok : Nat → Prop} {e g n cap : Nat} {xs : List α} (h : d.R e W base ok (.slice (some ⟨g, 0, none⟩) n cap) xs) (j : Nat) (x : α) (hx : xs[j]? = some x) :
 ∃ a, W.cell? ⟨g, j, none⟩ = some a ∧ d.M W base (fun k => ok k ∧ some k ≠ some g) x [a] ∧ W.frozen? ⟨g, j, none⟩ = false ∧ g < W.heap.size := by
 obtain ⟨hok, inner, ⟨hlen, hrow⟩, hr1, hr2⟩ := h; rcases hrow with ⟨hv, _⟩ | ⟨g', cap', cur, hv, hbg, hh, hnc, hcm, hcs, ht⟩
 · cases hv
 injection hv with ha0 hn0 hc0; injection ha0 with ha0; injection ha0 with hg0; subst hg0; subst hc0; rw [hd] at hlen hcs ht hr1 hr2; obtain ⟨hj, _⟩ := List.getElem?_eq_some_iff.1 hx; have h0 : j < inner.length := by omega
 have e0 : cur[j]? = inner[j]? := by
  have := congrArg (fun l => l[j]?) ht; simp only [List.getElem?_take] at this; rw [if_pos zz1n, Array.getElem?_toList] at this; exact this
 refine ⟨inner[j], ?_, ?_, zL hh _, blk_lt hh⟩
 · rw [zK hh, e0, List.getElem?_eq_getElem]
 · have := hr2 j x hx; rw [Nat.mul_one, take1_of inner j _ (List.getElem?_eq_getElem h0)] at this; exact this
theorem R_copy1 {α : Type} {d : Kd α} (hd : d.sz = 1) {W : World} {base : Nat} {ok : Nat → Prop} {e g n cap : Nat} {xs : List α} (h : d.R e W base ok (.slice (some ⟨g, 0, none⟩) n cap) xs) (i j : Nat) (hi : i < xs.length) (x : α) (hx : xs[j]? = some x)
 {a : Value} (ha : W.cell? ⟨g, j, none⟩ = some a) :
 d.R e (W.setCell ⟨g, i, none⟩ a) base ok (.slice (some ⟨g, 0, none⟩) n cap) (xs.set i x) := by
 obtain ⟨a', ha', hM, _, _⟩ := R_one hd h j x hx; obtain rfl : a = a' := Option.some.inj (ha.symm.trans ha'); clear ha'; obtain ⟨hok, inner, ⟨hlen, hrow⟩, hr1, hr2⟩ := h; rcases hrow with ⟨hv, _⟩ | ⟨g', cap', cur, hv, hbg, hh, hnc, hcm, hcs, ht⟩
 · cases hv
 injection hv with ha0 hn0 hc0; injection ha0 with ha0; injection ha0 with hg0; subst hg0; subst hc0; have hfar : ∀ k, k ≠ g → (W.setCell ⟨g, i, none⟩ a).heap[k]? = W.heap[k]? := fun k hk => Below.heap_setCell W ⟨g, i, none⟩ a k hk
 have hmv : ∀ y cs, d.M W base (fun k => ok k ∧ some k ≠ some g) y cs → d.M (W.setCell ⟨g, i, none⟩ a) base (fun k => ok k ∧ some k ≠ some g) y cs := fun y cs hm => d.M_move (fun k hk => hfar k (fun e => hk.2 (by rw [e]))) hm
 have hb2 := zO hh i a rfl; refine ⟨hok, inner.set i a, ⟨by rw [List.length_set, List.length_set]; exact hlen, .inr ⟨g, cap, _, by rw [List.length_set, hn0], hbg, hb2, by rw [List.length_set]; exact hnc, hcm, by simpa using hcs, ?_⟩⟩, by rw [List.length_set, List.length_set]; exact hr1, fun q p hq => ?_⟩
 · rw [List.length_set, Array.toList_setIfInBounds, List.take_set, ht]
 · rw [hd] at hr1 hr2 ⊢; by_cases hqi : q = i
   · subst hqi; rw [List.getElem?_set_self hi] at hq; obtain rfl := Option.some.inj hq; rw [Nat.mul_one, take1_of _ q a (by rw [List.getElem?_set_self zz1n])]; exact hmv _ _ hM
   · rw [List.getElem?_set_ne (fun e => hqi e.symm)] at hq; rw [take1_ne _ _ _ _ hqi]; exact hmv _ _ (hr2 q p hq)
def zc1 (n : Nat) : List Value := (Builtin.zeroCells #[.slice none 0 0] n).toList
theorem zc1_len (n : Nat) : (zc1 n).length = n := by simp [zc1, Builtin.zeroCells]
theorem clear_one {P : Program} (w : World) (t e : TypeId) (b o n c : Nat) (ht : P.underlying t = some (.slice e)) (hv : ∀ w, (zeroValue e).run P w = .ok (.slice none 0 0) w) (hn : 0 < n)
 (hc : ∀ j, j < n → (w.cell? ⟨b, o + j, none⟩).isSome = true) (hf : ∀ j, j < n → w.frozen? ⟨b, o + j, none⟩ = false) :
 ∀ ty, (Builtin.clear_ #[t] ty #[.slice (some ⟨b, o, none⟩) n c]).run P w = .ok (.tuple #[]) (w.setCells b o (zc1 n)) := by
 intro ty; have hone : ∀ v ∈ zc1 n, v.oneCell' = true := fun v hv' => by
  simp only [zc1, Builtin.zeroCells, Array.toList_map, List.mem_map] at hv'; obtain ⟨i, _, rfl⟩ := hv'; have h2 : (#[(.slice none 0 0 : Value)]).size = 1 := rfl; rw [h2, Nat.mod_one]; rfl
 have hst := run_storeCells_cells (P := P) b o (zc1 n) 0 w (by rw [zc1_len]; simpa using hc) (by rw [zc1_len]; simpa using hf) hone; simp only [Nat.add_zero] at hst; obtain ⟨m, rfl⟩ : ∃ m, n = m + 1 := ⟨n - 1, zz1n⟩
 have hcl : (Value.slice none 0 0).cells = #[.slice none 0 0] := by simp [Value.cells]
 simp only [zc1] at hst; simp [Builtin.clear_, run_underlying ht, hv, hcl, hst, zc1]
theorem R_split {α : Type} {d : Kd α} (hd : d.sz = 1) {W : World} {base : Nat} {ok : Nat → Prop} {e : Nat} {v : Value} {xs : List α} (h : d.R e W base ok v xs) :
 (v = .slice none 0 0 ∧ xs = []) ∨ ∃ (g cap : Nat) (cur : Array Value), v = .slice (some ⟨g, 0, none⟩) xs.length cap ∧ ok g ∧ base ≤ g ∧ W.heap[g]? = some (.cells cur e (0, 0)) ∧ xs.length ≤ cap ∧ cap ≤ maxLen ∧ cur.size = cap ∧
  ∀ (j : Nat) (x : α), xs[j]? = some x → ∃ a, cur[j]? = some a ∧ d.M W base (fun k => ok k ∧ k ≠ g) x [a] := by
 have h' := h; obtain ⟨hok, inner, ⟨hlen, hrow⟩, hr1, hr2⟩ := h; rcases hrow with ⟨hv, h0⟩ | ⟨g, cap, cur, hv, hbg, hh, hnc, hcm, hcs, ht⟩
 · exact .inl ⟨hv, List.length_eq_zero_iff.1 h0⟩
 · subst hv; refine .inr ⟨g, cap, cur, rfl, hok g rfl, hbg, hh, hnc, hcm, by rw [hcs, hd, Nat.mul_one], fun j x hx => ?_⟩; obtain ⟨a, h1, h2, _, _⟩ := R_one hd h' j x hx; rw [zK hh] at h1; exact ⟨a, h1, d.M_mono (fun k hk => ⟨hk.1, fun e => hk.2 (by rw [e])⟩) h2⟩
theorem R_join {α : Type} {d : Kd α} (hd : d.sz = 1) {W : World} {base g cap : Nat} {ok : Nat → Prop} {e : Nat} {xs : List α} {cur : Array Value} (hok : ok g) (hb : base ≤ g) (hh : W.heap[g]? = some (.cells cur e (0, 0))) (hn : xs.length ≤ cap) (hc : cap ≤ maxLen) (hs : cur.size = cap)
 (hm : ∀ (j : Nat) (x : α), xs[j]? = some x → ∃ a, cur[j]? = some a ∧ d.M W base (fun k => ok k ∧ k ≠ g) x [a]) : d.R e W base ok (.slice (some ⟨g, 0, none⟩) xs.length cap) xs := by
 have e0 : cur.toList.length = cap := by rw [← hs]; rfl
 have hl : (cur.toList.take xs.length).length = xs.length := by rw [List.length_take, e0]; omega
 refine ⟨fun k hk => by have : g = k := by simpa [Value.ownBlock] using hk
                        rw [← this]; exact hok, cur.toList.take xs.length, ⟨by rw [hl, hd, Nat.mul_one], .inr ⟨g, cap, cur, rfl, hb, hh, hn, hc, by rw [hs, hd, Nat.mul_one], by rw [hd, Nat.mul_one]⟩⟩, by rw [hl, hd, Nat.mul_one], fun j x hx => ?_⟩
 obtain ⟨a, h1, h2⟩ := hm j x hx; obtain ⟨hj, _⟩ := List.getElem?_eq_some_iff.1 hx; rw [hd, Nat.mul_one, take1_of _ j a (by rw [List.getElem?_take_of_lt hj, Array.getElem?_toList]; exact h1)]; refine d.M_mono (fun k hk => ⟨hk.1, fun e => hk.2 ?_⟩) h2; have : some k = some g := by simpa [Value.ownBlock] using e
 injection this
end Go.Proofs.Ytkocahlifffgjaa.P
namespace Go.Proofs.Ytkocahlifffgjaa.P
open Go.RowKit Go.Proofs.YtkocahlifffgjaaW.PrintWords Go.Proofs.YtkocahlifffgjaaW.PrintLast Go.Proofs.YtkocahlifffgjaaW.PrintMore
set_option linter.unusedVariables false
set_option linter.unusedSimpArgs false
structure RowV (f : Nat → Nat) (W : World) (base : Nat) (ok : Nat → Prop) where
 v : Value
 z : List Int × Nat
 m : (Kd.tag f (Kd.slice 3 (Kd.int .i64))).M W base ok z [v]
theorem rowV_none (f : Nat → Nat) (W : World) (base : Nat) (ok : Nat → Prop) : (Kd.tag f (Kd.slice 3 (Kd.int .i64))).M W base ok ([], 0) [.slice none 0 0] := ⟨.slice none 0 0, rfl, Kd.R_nil _ _ _ _ _⟩
instance (f : Nat → Nat) (W : World) (base : Nat) (ok : Nat → Prop) : Inhabited (RowV f W base ok) := ⟨⟨.slice none 0 0, ([], 0), rowV_none f W base ok⟩⟩
theorem RowV.cell {f : Nat → Nat} {W : World} {base : Nat} {ok : Nat → Prop} (x : RowV f W base ok) : (x.v).oneCell' = true := by
 obtain ⟨v, z, v', hv, hR⟩ := x; injection hv with hv; subst hv; obtain ⟨A, c, rfl⟩ := Kd.R_slice hR; rfl
section
variable {α : Type} [Inhabited α]
theorem heap_sortW (enc : α → Value) {w : World} {g n : Nat} {os : Array Obj} {cur : Array Value} {e : TypeId} {fr : Nat × Nat} (d : Array α) (hb : w.heap[g]? = some (.cells cur e fr)) :
 (Go.Sort.grow (Go.Sort.putRow enc (Go.Sort.ahead w n) g 0 d) os).heap[g]? = some (.cells (Go.Sort.putCells enc 0 d cur) e fr) := by
 have hg : g < w.heap.size := (Array.getElem?_eq_some_iff.1 hb).1; rw [Go.Sort.heap_grow_old _ _ (by simpa using hg)]; simp [Go.Sort.putRow, Go.Sort.mapBlock, Go.Sort.ahead, Array.getElem?_modify, hb, Go.Sort.onCells]
theorem grownBy_sortW (enc : α → Value) {w : World} {g n : Nat} {os : Array Obj} (d : Array α) : w.grownBy (Go.Sort.grow (Go.Sort.putRow enc (Go.Sort.ahead w n) g 0 d) os) (some g) := by
 refine ⟨rfl, rfl, rfl, zz1o, fun k hk hne => ?_⟩; rw [Go.Sort.heap_grow_old _ _ (by simpa using hk)]; have : g ≠ k := fun e => hne (by rw [e])
 simp [Go.Sort.putRow, Go.Sort.mapBlock, Go.Sort.ahead, Array.getElem?_modify, this]
theorem get_putCells (enc : α → Value) (cur : Array Value) (d : Array α) (j : Nat) (x : α) (hj : d[j]? = some x) (hc : d.size ≤ cur.size) : (Go.Sort.putCells enc 0 d cur)[j]? = some (enc x) := by
 obtain ⟨h1, h2⟩ := Array.getElem?_eq_some_iff.1 hj; have h3 : d[j]! = x := by rw [getElem!_pos d j h1, h2]
 have h4 : j < cur.size := by omega
 unfold Go.Sort.putCells; rw [Array.getElem?_mapIdx, Array.getElem?_eq_getElem h4, Option.map_some, if_pos ⟨Nat.zero_le _, zz1n⟩, Nat.sub_zero, h3]
end
theorem RowV.reads {f : Nat → Nat} {W V : World} {base g : Nat} {ok : Nat → Prop} (x : RowV f W base (fun k => ok k ∧ k ≠ g)) (hV : W.grownBy V (some g)) :
 ∃ A c, x.v = .slice A x.z.1.length c ∧ x.z.1.length ≤ c ∧ Kd.C (Kd.int .i64) V A x.z.1.length x.z.1 := by
 have h := Kd.M_grown (d := Kd.tag f (Kd.slice 3 (Kd.int .i64))) x.m hV (fun k hk e => hk.2 (Option.some.inj e)); obtain ⟨v', hv, hR⟩ := h; injection hv with hv; obtain ⟨A, c, h1, h2, h3⟩ := Kd.R_reads hR; exact ⟨A, c, hv.trans h1, h2, h3⟩
theorem cmpL_swo {α : Type} (p : α → List Int) : Go.Sort.SWO (ltOf fun x y : α => cmpL (p x) (p y)) where
 irrefl x := by unfold ltOf; show decide (cmpL (p x) (p x) < 0) = false; rw [cmpL_self]; rfl
 trans x y z h1 h2 := by unfold ltOf at *; simp only [decide_eq_true_eq] at *; exact cmpL_trans _ _ _ h1 h2
 ntrans x y z h1 h2 := by
  unfold ltOf at *
  simp only [decide_eq_false_iff_not] at *
  intro h3; by_cases e : p y = p x
  · rw [← e] at h3; exact h2 h3
  · have h4 : cmpL (p y) (p x) < 0 := cmpL_flip h1 (fun e' => e e'.symm); exact h2 (cmpL_trans _ _ _ h4 h3)
theorem sortRows_calls (f : Nat → Nat) (base : Nat) (ok : Nat → Prop) (v : Value) (zs : List (List Int × Nat)) (w : World) (hR : (Kd.tag f (Kd.slice 3 (Kd.int .i64))).R 23 w base ok v zs) (hl : zs.length < 4611686018427387904) :
 Calls Try.prog 95 #[v, .func (.func 94) #[] #[]] w fun e w' => e = .returned (.tuple #[]) ∧ ∃ zs', zs'.Perm zs ∧ zs'.Pairwise (fun a b => ¬ cmpL b.1 a.1 < 0) ∧ (Kd.tag f (Kd.slice 3 (Kd.int .i64))).R 23 w' base ok v zs' ∧ w.grownBy w' v.ownBlock := by
 rcases R_split rfl hR with ⟨rfl, rfl⟩ | ⟨g, cap, cur, rfl, hok, hbg, hh, hnc, hcm, hcs, hm⟩
 · refine (AnyF.slices_SortFunc_none { Try.srtf with } none 0 _ w).mono fun e w' ⟨he, hw⟩ => ?_
   subst hw; exact ⟨he, [], .nil, .nil, Kd.R_nil _ _ _ _ _, ⟨rfl, rfl, rfl, Nat.le_refl _, fun _ _ _ => rfl⟩⟩
 · have hg : g < w.heap.size := blk_lt hh; have hrow : (Value.slice (some (⟨g, 0, none⟩ : Addr)) zs.length cap).ownBlock = some g := rfl; have pick : ∀ j, (hj : j < zs.length) → ∃ y : RowV f w base (fun k => ok k ∧ k ≠ g), cur[j]? = some y.v ∧ y.z = zs[j] := fun j hj => by
    obtain ⟨a, h1, h2⟩ := hm j zs[j] (List.getElem?_eq_getElem hj); exact ⟨⟨a, zs[j], h2⟩, h1, rfl⟩
   obtain ⟨d, hd0, hd1⟩ : ∃ d : Array (RowV f w base (fun k => ok k ∧ k ≠ g)), d.size = zs.length ∧ ∀ j, (hj : j < d.size) → ∃ hz : j < zs.length, cur[j]? = some (d[j]).v ∧ (d[j]).z = zs[j] := by
    refine ⟨Array.ofFn fun i : Fin zs.length => Classical.choose (pick i.val i.isLt), zz1o, fun j hj => ?_⟩; have hz : j < zs.length := by simpa using hj
    refine ⟨hz, ?_⟩; rw [Array.getElem_ofFn]; exact Classical.choose_spec (pick j hz)
   have eg : ∀ args w, (callFunc 94 args).run Try.prog w = .ok (.enter 94 args) w := enters_of Try.func94 zz1j rfl; have hH : Go.Sort.Holds (fun x : RowV f w base (fun k => ok k ∧ k ≠ g) => x.v) w g 0 d := fun j hj => by
    obtain ⟨_, h1, _⟩ := hd1 j hj; rw [Nat.zero_add, getElem!_pos d j hj]; exact ⟨(zK hh j).trans h1, zL hh j⟩
   have hcmp : CmpLays1 Try.prog 94 #[] (fun x : RowV f w base (fun k => ok k ∧ k ≠ g) => x.v) (fun x y => cmpL x.z.1 y.z.1) g 0 d.size w := fun m os dk hdk x y => by
    obtain ⟨A1, c1, e1, l1, r1⟩ := x.reads (V := sortWorld (fun x : RowV f w base (fun k => ok k ∧ k ≠ g) => x.v) w g 0 m dk os) (grownBy_sortW _ dk); obtain ⟨A2, c2, e2, l2, r2⟩ := y.reads (V := sortWorld (fun x : RowV f w base (fun k => ok k ∧ k ≠ g) => x.v) w g 0 m dk os) (grownBy_sortW _ dk); have hb := r1.2.1; show Calls Try.prog 94 #[x.v, y.v] _ _; rw [e1, e2]; refine (slices_Compare_int_int.calls (x.z.1.length + 1) A1 c1 x.z.1 A2 c2 y.z.1 _ _ r1 l1 r2 l2 (compare_eq x.z.1 y.z.1 hb _ (Nat.lt_succ_self _))).mono fun e w' ⟨he, q, hq⟩ => ⟨he, q, #[], by rw [Go.Sort.grow_empty]; exact hq⟩
   have S := Any.slices_SortFunc Try.srtf (fun x : RowV f w base (fun k => ok k ∧ k ≠ g) => x.v) (fun x => x.cell) (fun x y => cmpL x.z.1 y.z.1) (cmpL_swo fun x : RowV f w base (fun k => ok k ∧ k ≠ g) => x.z.1) 94 #[] g 0 cap d w eg hcmp hH hg (by rw [hd0]; exact hl); rw [hd0] at S; refine S.mono fun e w' ⟨he, d', n, os, ⟨hp1, _, hp3⟩, hs, hw⟩ => ⟨he, d'.toList.map fun y => y.z, ?_, ?_, ?_, ?_⟩
   · rw [← hd0] at hp3; rw [show d'.extract 0 d.size = d' by rw [← hp1]; exact Array.extract_size, Array.extract_size] at hp3; have h4 : d.toList.map (fun y => y.z) = zs := by
      apply List.ext_getElem
      · simp [hd0]
      · intro j h1 h2; obtain ⟨_, _, h5⟩ := hd1 j (by rw [hd0]; exact h2); simp [h5]
     rw [← h4]; exact hp3.map _
   · rw [List.pairwise_map, List.pairwise_iff_getElem]; intro i j hi hj hij; have hi' : i < d'.size := by simpa using hi
     have hj' : j < d'.size := by simpa using hj
     have h5 := hs i j (Nat.zero_le _) hij (by rw [← hd0, ← hp1]; exact hj'); rw [getElem!_pos d' j hj', getElem!_pos d' i hi'] at h5; have h6 := of_decide_eq_false h5; simpa using h6
   · subst hw; have hh2 := heap_sortW (fun x : RowV f w base (fun k => ok k ∧ k ≠ g) => x.v) (n := n) (os := os) d' hh; have hsz : d'.size = zs.length := hp1.trans hd0; have hlen : (d'.toList.map fun y => y.z).length = zs.length := by simp [hsz]
     have J := R_join (d := Kd.tag f (Kd.slice 3 (Kd.int .i64))) (W := sortWorld (fun x : RowV f w base (fun k => ok k ∧ k ≠ g) => x.v) w g 0 n d' os) (xs := d'.toList.map fun y => y.z) (ok := ok) (base := base) (cap := cap) (g := g) (e := 23) rfl hok hbg hh2 (by rw [hlen]; exact hnc) hcm (by simp [Go.Sort.putCells, hcs]) (fun j x hx => by
      rw [List.getElem?_map] at hx; obtain ⟨y, hy, rfl⟩ := Option.map_eq_some_iff.1 hx; rw [Array.getElem?_toList] at hy; exact ⟨y.v, get_putCells _ cur d' j y hy (by rw [hsz, hcs]; exact hnc), Kd.M_grown y.m (grownBy_sortW _ d') (fun k hk e => hk.2 (Option.some.inj e))⟩)
     rw [hlen] at J; exact J
   · subst hw; exact grownBy_sortW _ d'
end Go.Proofs.Ytkocahlifffgjaa.P
namespace Go.Proofs.Ytkocahlifffgjaa.P
open Go.RowKit Go.Proofs.YtkocahlifffgjaaW.PrintWords Go.Proofs.YtkocahlifffgjaaW.PrintLast Go.Proofs.YtkocahlifffgjaaW.PrintMore
attribute [local go_sem] max2_int min2_int max_two min_two max_three min_three max_four min_four
set_option linter.unusedVariables false
set_option linter.unusedSimpArgs false
def slices_Equal_int_int.l0 : Nat → List Int → List Int → Int → Int → Option (Bool)
 | 0, _, _, _, _ => none
 | k + 1, x0, x1, hv, d5 => if d5 < hv then (if 0 ≤ d5 then (if d5 < (x0.length : Int) then (if d5 < (x1.length : Int) then (if (rd x0 d5) = (rd x1 d5) then (slices_Equal_int_int.l0 k x0 x1 hv (wrap64 (d5 + 1))) else (some false)) else (none)) else (none)) else (none)) else (some true)
def slices_Equal_int_int.f (k : Nat) (l0 : List Int) (l1 : List Int) : Option (Bool) := if (l0.length : Int) = (l1.length : Int) then (slices_Equal_int_int.l0 k l0 l1 (l0.length : Int) 0) else (some false)
set_option maxHeartbeats 8000000 in
set_option maxRecDepth 100000 in
theorem slices_Equal_int_int.calls (k : Nat) (A0 : Option Addr) (c0 : Nat) (l0 : List Int) (A1 : Option Addr) (c1 : Nat) (l1 : List Int) (r : Bool) (w : World) (dK : Kd.C (Kd.int .i64) w A0 l0.length l0) (dL : l0.length ≤ c0) (et : Kd.C (Kd.int .i64) w A1 l1.length l1) (eu : l1.length ≤ c1) (h : slices_Equal_int_int.f k l0 l1 = some r) :
 Calls Try.prog 97 #[.slice A0 l0.length c0, .slice A1 l1.length c1] w fun e w' => e = .returned (.bool r) ∧ Drawn0 w w' := by
 have dx := zA dK; have iG := zA dL; clear dK dL; have eO := zA et; have hl := zA eu; clear et eu; have H : (if (l0.length : Int) = (l1.length : Int) then (slices_Equal_int_int.l0 k l0 l1 (l0.length : Int) 0) else (some false)) = some r := h; clear h; by_cases c3 : (l0.length : Int) = (l1.length : Int)
 · rw [if_pos c3] at H; have cS : ((l0.length : Int) == (l1.length : Int)) = true := beq_iff_eq.mpr c3; have fx : ((l0.length : Int) != (l1.length : Int)) = false := bne_eq_false_iff_eq.mpr c3; have hq : (l0.length == l1.length) = true := by first | simpa using c3 | (simp at c3 ⊢; omega)
   clear c3; have H' := zA H; clear H; go_enter Try.func97, Try.ntmps97; go_wp2; (repeat (go_quiet (fail); try go_wp2)); go_loopg [13] k (fun kq rV w' => ∃ (bj : Int), rV = .int .i64 bj ∧ Aside0 (slices_Equal_int_int.l0 kq l0 l1 (l0.length : Int) bj = some r) ∧ Aside0 (kq ≤ k) ∧ Drawn0 w w')
   case atStart => exact ⟨(0), zz16, H', ⟨Nat.le_refl _⟩, zz14⟩
   case round =>
    clear H'; (try clear c1); (try clear p2); (try clear c3); (try clear cS); (try clear fx); (try clear hq); obtain ⟨bj, rfl, HA, bM, ⟨m1, rfl⟩⟩ := hrel; cases gk with
    | zero => exact absurd HA.out (by simp [slices_Equal_int_int.l0])
    | succ k1 =>
     have H := HA.out; clear HA; simp only [slices_Equal_int_int.l0] at H; by_cases c4 : bj < (l0.length : Int)
     · rw [if_pos c4] at H; have dp := decide_eq_true c4; clear c4; replace H := zIn H; obtain ⟨c5, H⟩ := H; have e5 : decide (0 ≤ bj) = true := decide_eq_true c5; clear c5; replace H := zIn H; obtain ⟨c6, H⟩ := H; have dq : decide (bj < (l0.length : Int)) = true := decide_eq_true c6; clear c6; replace H := zIn H; obtain ⟨c7, H⟩ := H; have dy : decide (bj < (l1.length : Int)) = true := decide_eq_true c7; clear c7; by_cases c8 : (rd l0 bj) = (rd l1 bj)
       · rw [if_pos c8] at H; have dY : ((rd l0 bj) == (rd l1 bj)) = true := beq_iff_eq.mpr c8; have mx : ((rd l0 bj) != (rd l1 bj)) = false := bne_eq_false_iff_eq.mpr c8; clear c8; have H' := zA H; clear H; have aU : 0 ≤ (bj : Int) := of_decide_eq_true zz1i; have aV : bj < (l0.length : Int) := of_decide_eq_true zz1i; obtain ⟨bi, bV, bc⟩ := Kd.at_int dx.out bj aU aV; cases bV; replace aU := eq_true aU; replace aV := eq_true aV; have b0 : 0 ≤ (bj : Int) := of_decide_eq_true zz1i; have b1 : bj < (l1.length : Int) := of_decide_eq_true zz1i; obtain ⟨dz, dh, b5⟩ := Kd.at_int eO.out bj b0 b1; cases dh; replace b0 := eq_true b0; replace b1 := eq_true b1; go_wp2; repeat (go_quiet (fail); try go_wp2)
         go_roundg k1
         case measure => have := bM.out; omega
         case rel => exact ⟨(wrap64 (bj + 1)), zz16, H', ⟨zz1e bM⟩, zz14⟩
       · rw [if_neg c8] at H; have dY : ((rd l0 bj) == (rd l1 bj)) = false := beq_eq_false_iff_ne.mpr c8; have mx : ((rd l0 bj) != (rd l1 bj)) = true := bne_iff_ne.mpr c8; obtain rfl := Option.some.inj H; have aU : 0 ≤ (bj : Int) := of_decide_eq_true zz1i; have aV : bj < (l0.length : Int) := of_decide_eq_true zz1i; obtain ⟨bi, bV, bc⟩ := Kd.at_int dx.out bj aU aV; cases bV; replace aU := eq_true aU; replace aV := eq_true aV; have b0 : 0 ≤ (bj : Int) := of_decide_eq_true zz1i; have b1 : bj < (l1.length : Int) := of_decide_eq_true zz1i; obtain ⟨dz, dh, b5⟩ := Kd.at_int eO.out bj b0 b1; cases dh; replace b0 := eq_true b0; replace b1 := eq_true b1; go_wp2; (repeat (go_quiet (fail); try go_wp2)); go_ret; exact ⟨zz16, zz14⟩
     · rw [if_neg c4] at H; have dp := decide_eq_false c4; clear c4; obtain rfl := Option.some.inj H; go_wp2; (repeat (go_quiet (fail); try go_wp2)); go_ret; exact ⟨zz16, zz14⟩
 · rw [if_neg c3] at H; have cS : ((l0.length : Int) == (l1.length : Int)) = false := beq_eq_false_iff_ne.mpr c3; have fx : ((l0.length : Int) != (l1.length : Int)) = true := bne_iff_ne.mpr c3; have hq : (l0.length == l1.length) = false := by first | simpa using c3 | (simp at c3 ⊢; omega)
   obtain rfl := Option.some.inj H; go_enter Try.func97, Try.ntmps97; go_wp2; (repeat (go_quiet (fail); try go_wp2)); go_ret; exact ⟨zz16, zz14⟩
end Go.Proofs.Ytkocahlifffgjaa.P
