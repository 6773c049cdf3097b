/- A part of the proofs of some laws of this seat (words of the print and texts of this session, without what these laws do not use). -/
import Derived.Test.YtekoclhnfhbmeaaTFnExactRewritesTop0
import Derived.Shelf.Abstract
import Derived.Test.YtekoclhnfhbmeaaProg
import Derived.Shelf.SlLaysM
import Derived.Shelf.SortM.Plain
import Derived.Shelf.SortM.SortNone
import Derived.Sort.OwnSortedInts
import Derived.Deep.RegionLaw
import Derived.Shelf.RegionOpenPlain
import Derived.Lib.AppendZerosOnto
import Derived.Lib.AppendZeros
import Derived.Lib.SliceRun
import Derived.Lib.Overlaps
import Derived.Laws.Externs
import Derived.Laws.IdiomCopy
import Derived.BigQuiet
import Derived.Deep.QuietTactic
namespace Go.Proofs.Ytekoclhnfhbmeaa.P
open Go.RowKit Go.Proofs.YtekoclhnfhbmeaaW.PrintWords Go.Proofs.YtekoclhnfhbmeaaW.PrintLast Go.Proofs.YtekoclhnfhbmeaaW.PrintMore
attribute [local go_sem] max2_int min2_int max_two min_two max_three min_three max_four min_four
set_option linter.unusedVariables false
set_option linter.unusedSimpArgs false
def laws_toGrammar.f (k : Nat) (a0_0 : Int) (a0_1 : Int) (l0_2 : List (S98)) : Option (Int × Int × (List (S87))) := (laws_toRuleS.f k l0_2).bind fun t104 => (some (a0_0, a0_1, t104))
set_option maxHeartbeats 8000000 in
set_option maxRecDepth 100000 in
theorem laws_toGrammar.calls (k : Nat) (a0_0 : Int) (a0_1 : Int) (A0_2 : Option Addr) (c0_2 : Nat) (l0_2 : List (S98)) (r1 : Int) (r2 : Int) (r3 : List (S87)) (w : World) (hr0_2 : Kd.C k98 w A0_2 l0_2.length l0_2) (hc0_2 : l0_2.length ≤ c0_2) (h : laws_toGrammar.f k a0_0 a0_1 l0_2 = some (r1, r2, r3)) :
 Calls Try.prog 17 #[.agg #[.int .i64 a0_0, .int .i64 a0_1, .slice A0_2 l0_2.length c0_2]] w fun e w' => ∃ v2_ : Value, e = .returned (.agg #[.int .i64 r1, .int .i64 r2, v2_]) ∧ Kd.S k87 87 w' w.heap.size (fun _ => True) v2_ r3 ∧ Below w.heap.size w w' := by
 have hu24 := Try.underlying24; have hu28 := Try.underlying28; have HR0_2 := zA hr0_2; have HC0_2 := zA hc0_2; clear hr0_2 hc0_2; have HB := zA (Below.refl w.heap.size w); have H : ((laws_toRuleS.f k l0_2).bind fun t104 => (some (a0_0, a0_1, t104))) = some (r1, r2, r3) := h; clear h; replace H := Option.bind_eq_some_iff.mp H; obtain ⟨t104, A20, H⟩ := H; replace H : (some (a0_0, a0_1, t104)) = some (r1, r2, r3) := H; have A2 := zA A20; clear A20; simp only [Option.some.injEq, Prod.mk.injEq] at H; obtain ⟨rfl, rfl, rfl⟩ := H; go_enter Try.func17, Try.ntmps17; go_wp2_with (first | ((with_reducible refine gate_dst (N := 1) rfl ?_); refine box_event ?hg (N := 1) ?hd (cs := #[.int .i64 a0_0, .int .i64 a0_1, .slice A0_2 l0_2.length c0_2]) (t := 24) ?hr ?_; (case hd => rfl); (case hg => rfl); (case hr => first | (go_simp; done) | (go_simp; rfl)); intro gb101 hg w3 hbox hb; have n0_ := zA (zG (by repeat (first | (with_reducible first | exact HB.out | apply zB | apply zC | apply zD) | exact HB.out)) hb); have n1_ := zA (hbox); have n2_ := zA ((by rw [hg]; exact (zF (by repeat (first | (with_reducible first | exact HB.out | apply zB | apply zC | apply zD) | exact HB.out))) : w.heap.size ≤ gb101)); have n3_ := zA ((by rw [hg]; exact (zF (by repeat (first | (with_reducible first | exact HB.out | apply zB | apply zC | apply zD) | exact HB.out))) : w.heap.size ≤ gb101)); clear HB; have HB := n0_; have BK101 := n1_; have GW101 := n2_; have GE101 := n3_; clear n0_ n1_ n2_ n3_; clear hb hbox hg) | ((with_reducible refine gate_dst (N := 2) rfl ?_); refine box_event ?hg (N := 2) ?hd (cs := #[.int .i64 0, .int .i64 0, .slice none 0 0]) (t := 28) ?hr ?_; (case hd => rfl); (case hg => rfl); (case hr => first | (go_simp; done) | (go_simp; rfl)); intro gb102 hg w4 hbox hb; have n0_ := zA (zM (g := gb101) (o := .cells #[.int .i64 a0_0, .int .i64 a0_1, .slice A0_2 l0_2.length c0_2] 24 (0, 0)) (by (with_reducible repeat (first | refine zI ?_ _ | refine zJ ?_ | refine zH ?_ _)); exact BK101.out) hb); have n1_ := zA (zG (by repeat (first | (with_reducible first | exact HB.out | apply zB | apply zC | apply zD | refine zE ?_ GE101.out) | exact HB.out)) hb); have n2_ := zA (hbox); have n3_ := zA ((by rw [hg]; exact (zF (by repeat (first | (with_reducible first | exact HB.out | apply zB | apply zC | apply zD | refine zE ?_ GE101.out) | exact HB.out))) : w.heap.size ≤ gb102)); have n4_ := zA ((by rw [hg]; exact (zF (by repeat (first | (with_reducible first | exact HB.out | apply zB | apply zC | apply zD | refine zE ?_ GE101.out) | exact HB.out))) : w.heap.size ≤ gb102)); have n5_ := zA ((by rw [hg]; exact Nat.ne_of_lt (blk_lt (g := gb101) (o := .cells #[.int .i64 a0_0, .int .i64 a0_1, .slice A0_2 l0_2.length c0_2] 24 (0, 0)) (by (with_reducible repeat (first | refine zI ?_ _ | refine zJ ?_ | refine zH ?_ _)); exact BK101.out)) : gb101 ≠ gb102)); have n6_ := zA ((by rw [hg]; exact Nat.ne_of_gt (blk_lt (g := gb101) (o := .cells #[.int .i64 a0_0, .int .i64 a0_1, .slice A0_2 l0_2.length c0_2] 24 (0, 0)) (by (with_reducible repeat (first | refine zI ?_ _ | refine zJ ?_ | refine zH ?_ _)); exact BK101.out)) : gb102 ≠ gb101)); clear BK101; clear HB; have BK101 := n0_; have HB := n1_; have BK102 := n2_; have GW102 := n3_; have GE102 := n4_; have NB101_102 := n5_; have NB102_101 := n6_; clear n0_ n1_ n2_ n3_ n4_ n5_ n6_; clear hb hbox hg) | ((with_reducible refine gate_dst (N := 3) rfl ?_); refine box_event ?hg (N := 3) ?hd (cs := #[.int .i64 0, .int .i64 0, .slice none 0 0]) (t := 28) ?hr ?_; (case hd => rfl); (case hg => rfl); (case hr => first | (go_simp; done) | (go_simp; rfl)); intro gb103 hg w5 hbox hb; have n0_ := zA (zM (g := gb101) (o := .cells #[.int .i64 a0_0, .int .i64 a0_1, .slice A0_2 l0_2.length c0_2] 24 (0, 0)) (by (with_reducible repeat (first | refine zI ?_ _ | refine zJ ?_ | refine zH ?_ _)); exact BK101.out) hb); have n1_ := zA (zM (g := gb102) (o := .cells #[.int .i64 0, .int .i64 0, .slice none 0 0] 28 (0, 0)) (by (with_reducible repeat (first | refine zI ?_ _ | refine zJ ?_ | refine zH ?_ _)); exact BK102.out) hb); have n2_ := zA (zG (by repeat (first | (with_reducible first | exact HB.out | apply zB | apply zC | apply zD | refine zE ?_ GE101.out | refine zE ?_ GE102.out) | exact HB.out)) hb); have n3_ := zA (hbox); have n4_ := zA ((by rw [hg]; exact (zF (by repeat (first | (with_reducible first | exact HB.out | apply zB | apply zC | apply zD | refine zE ?_ GE101.out | refine zE ?_ GE102.out) | exact HB.out))) : w.heap.size ≤ gb103)); have n5_ := zA ((by rw [hg]; exact (zF (by repeat (first | (with_reducible first | exact HB.out | apply zB | apply zC | apply zD | refine zE ?_ GE101.out | refine zE ?_ GE102.out) | exact HB.out))) : w.heap.size ≤ gb103)); have n6_ := zA ((by rw [hg]; exact Nat.ne_of_lt (blk_lt (g := gb101) (o := .cells #[.int .i64 a0_0, .int .i64 a0_1, .slice A0_2 l0_2.length c0_2] 24 (0, 0)) (by (with_reducible repeat (first | refine zI ?_ _ | refine zJ ?_ | refine zH ?_ _)); exact BK101.out)) : gb101 ≠ gb103)); have n7_ := zA ((by rw [hg]; exact Nat.ne_of_gt (blk_lt (g := gb101) (o := .cells #[.int .i64 a0_0, .int .i64 a0_1, .slice A0_2 l0_2.length c0_2] 24 (0, 0)) (by (with_reducible repeat (first | refine zI ?_ _ | refine zJ ?_ | refine zH ?_ _)); exact BK101.out)) : gb103 ≠ gb101)); have n8_ := zA ((by rw [hg]; exact Nat.ne_of_lt (blk_lt (g := gb102) (o := .cells #[.int .i64 0, .int .i64 0, .slice none 0 0] 28 (0, 0)) (by (with_reducible repeat (first | refine zI ?_ _ | refine zJ ?_ | refine zH ?_ _)); exact BK102.out)) : gb102 ≠ gb103)); have n9_ := zA ((by rw [hg]; exact Nat.ne_of_gt (blk_lt (g := gb102) (o := .cells #[.int .i64 0, .int .i64 0, .slice none 0 0] 28 (0, 0)) (by (with_reducible repeat (first | refine zI ?_ _ | refine zJ ?_ | refine zH ?_ _)); exact BK102.out)) : gb103 ≠ gb102)); clear BK101; clear BK102; clear HB; have BK101 := n0_; have BK102 := n1_; have HB := n2_; have BK103 := n3_; have GW103 := n4_; have GE103 := n5_; have NB101_103 := n6_; have NB103_101 := n7_; have NB102_103 := n8_; have NB103_102 := n9_; clear n0_ n1_ n2_ n3_ n4_ n5_ n6_ n7_ n8_ n9_; clear hb hbox hg; have hnb6 := NB101_102.out; have hnc6 := NB102_101.out; have hnb7 := NB101_103.out; have hnc7 := NB103_101.out; have hcz8_0 : w5.cell? ⟨gb101, 0, none⟩ = some (.int .i64 a0_0) := (zK BK101.out 0).trans rfl; have hcz8_1 : w5.cell? ⟨gb101, 1, none⟩ = some (.int .i64 a0_1) := (zK BK101.out 1).trans rfl; have hcz8_2 : w5.cell? ⟨gb101, 2, none⟩ = some (.slice A0_2 l0_2.length c0_2) := (zK BK101.out 2).trans rfl; have hfz8_0 := zL BK101.out 0; have hfz8_1 := zL BK101.out 1; have hfz8_2 := zL BK101.out 2; have hnb9 := NB103_102.out; have hnc9 := NB102_103.out; have hcz10_0 : w5.cell? ⟨gb103, 0, none⟩ = some (.int .i64 0) := (zK BK103.out 0).trans rfl; have hcz10_1 : w5.cell? ⟨gb103, 1, none⟩ = some (.int .i64 0) := (zK BK103.out 1).trans rfl; have hcz10_2 : w5.cell? ⟨gb103, 2, none⟩ = some (.slice none 0 0) := (zK BK103.out 2).trans rfl; have hfz10_0 := zL BK103.out 0; have hfz10_1 := zL BK103.out 1; have hfz10_2 := zL BK103.out 2) | ((with_reducible refine gate_callee (f := 54) rfl ?_); refine goesL_ (some 12) rfl rfl Try.func54 (by kernel_rfl) rfl #[.slice A0_2 l0_2.length c0_2] rfl (by (try simp only [List.map_toArray, List.map_cons, List.map_nil]); first | done | rfl | (simp only [List.length_drop, List.length_take]; rfl)) ?_; (with_reducible refine (laws_toRuleS.calls k _ _ l0_2 t104 _ ?side1 ?side2 A2.out).mono ?_); (case side1 => exact zS HR0_2.out (by repeat (first | (with_reducible first | exact HB.out | apply zB | apply zC | apply zD | refine zE ?_ GE101.out | refine zE ?_ GE102.out | refine zE ?_ GE103.out) | exact HB.out))); (case side2 => exact HC0_2.out); rintro e w11 ⟨v105, rfl, ho0, hb⟩; refine ⟨_, rfl, ?_⟩; have n0_ := zA (Kd.S_lower ho0 (zF (by repeat (first | (with_reducible first | exact HB.out | apply zB | apply zC | apply zD | refine zE ?_ GE101.out | refine zE ?_ GE102.out | refine zE ?_ GE103.out) | exact HB.out)))); have n1_ := zA (zM (g := gb101) (o := .cells #[.int .i64 a0_0, .int .i64 a0_1, .slice A0_2 l0_2.length c0_2] 24 (0, 0)) (by (with_reducible repeat (first | refine zI ?_ _ | refine zJ ?_ | refine zH ?_ _)); refine zN ?_ NB101_103.out _; (with_reducible repeat (first | refine zI ?_ _ | refine zJ ?_ | refine zH ?_ _)); refine zN ?_ NB101_103.out _; (with_reducible repeat (first | refine zI ?_ _ | refine zJ ?_ | refine zH ?_ _)); exact BK101.out) hb); have n2_ := zA (zM (g := gb102) (o := .cells #[.int .i64 0, .int .i64 0, .slice none 0 0] 28 (0, 0)) (by (with_reducible repeat (first | refine zI ?_ _ | refine zJ ?_ | refine zH ?_ _)); refine zN ?_ NB102_103.out _; (with_reducible repeat (first | refine zI ?_ _ | refine zJ ?_ | refine zH ?_ _)); refine zN ?_ NB102_103.out _; (with_reducible repeat (first | refine zI ?_ _ | refine zJ ?_ | refine zH ?_ _)); exact BK102.out) hb); have n3_ := zA (zM (g := gb103) (o := .cells #[.int .i64 a0_0, .int .i64 a0_1, .slice none 0 0] 28 (0, 0)) (by (with_reducible repeat (first | refine zI ?_ _ | refine zJ ?_ | refine zH ?_ _)); refine zO (cs := #[.int .i64 a0_0, .int .i64 0, .slice none 0 0]) ?_ 1 _ rfl; (with_reducible repeat (first | refine zI ?_ _ | refine zJ ?_ | refine zH ?_ _)); refine zO (cs := #[.int .i64 0, .int .i64 0, .slice none 0 0]) ?_ 0 _ rfl; (with_reducible repeat (first | refine zI ?_ _ | refine zJ ?_ | refine zH ?_ _)); exact BK103.out) hb); have n4_ := zA (zG (by repeat (first | (with_reducible first | exact HB.out | apply zB | apply zC | apply zD | refine zE ?_ GE101.out | refine zE ?_ GE102.out | refine zE ?_ GE103.out) | exact HB.out)) hb); clear BK101; clear BK102; clear BK103; clear HB; have HO106 := n0_; have BK101 := n1_; have BK102 := n2_; have BK103 := n3_; have HB := n4_; clear n0_ n1_ n2_ n3_ n4_; (try clear hb); (try clear hb2); (try clear hk); (try clear hi); (try clear ho0); obtain ⟨Ao12, co12, eo12⟩ := Kd.S_slice HO106.out; subst eo12; have hcz13_0 : w11.cell? ⟨gb103, 0, none⟩ = some (.int .i64 a0_0) := (zK BK103.out 0).trans rfl; have hcz13_1 : w11.cell? ⟨gb103, 1, none⟩ = some (.int .i64 a0_1) := (zK BK103.out 1).trans rfl; have hcz13_2 : w11.cell? ⟨gb103, 2, none⟩ = some (.slice none 0 0) := (zK BK103.out 2).trans rfl; have hfz13_0 := zL BK103.out 0; have hfz13_1 := zL BK103.out 1; have hfz13_2 := zL BK103.out 2; have hcz14_0 : w11.cell? ⟨gb102, 0, none⟩ = some (.int .i64 0) := (zK BK102.out 0).trans rfl; have hcz14_1 : w11.cell? ⟨gb102, 1, none⟩ = some (.int .i64 0) := (zK BK102.out 1).trans rfl; have hcz14_2 : w11.cell? ⟨gb102, 2, none⟩ = some (.slice none 0 0) := (zK BK102.out 2).trans rfl; have hfz14_0 := zL BK102.out 0; have hfz14_1 := zL BK102.out 1; have hfz14_2 := zL BK102.out 2)); refine bodyPost_ret (results_cell_row rfl _ _ gb102 28 #[.int .i64 a0_0, .int .i64 a0_1, .slice Ao12 t104.length co12] (0, 0) _ rfl (by (with_reducible repeat (first | refine zI ?_ _ | refine zJ ?_ | refine zH ?_ _)); refine zO (cs := #[.int .i64 a0_0, .int .i64 a0_1, .slice none 0 0]) ?_ 2 _ rfl; (with_reducible repeat (first | refine zI ?_ _ | refine zJ ?_ | refine zH ?_ _)); refine zO (cs := #[.int .i64 a0_0, .int .i64 0, .slice none 0 0]) ?_ 1 _ rfl; (with_reducible repeat (first | refine zI ?_ _ | refine zJ ?_ | refine zH ?_ _)); refine zO (cs := #[.int .i64 0, .int .i64 0, .slice none 0 0]) ?_ 0 _ rfl; (with_reducible repeat (first | refine zI ?_ _ | refine zJ ?_ | refine zH ?_ _)); refine zN ?_ NB102_103.out _; (with_reducible repeat (first | refine zI ?_ _ | refine zJ ?_ | refine zH ?_ _)); exact BK102.out) Try.underlying28 rfl (by kernel_rfl)) rfl ?_; exact ⟨_, by first | rfl | (simp [errW_none, errW_some] <;> rfl) | (simp [*, errW_none, errW_some] <;> rfl), by (with_reducible repeat (first | apply Kd.S_alloc | apply Kd.S_drewN | apply Kd.S_drew)); exact Kd.S_mono (Kd.S_far (p := ⟨gb102, 2, none⟩) (Kd.S_far (p := ⟨gb102, 1, none⟩) (Kd.S_far (p := ⟨gb102, 0, none⟩) (Kd.S_far (p := ⟨gb103, 2, none⟩) (Kd.S_types (Kd.S_types HO106.out BK103.out (by decide)) BK102.out (by decide)) (fun _ hk => hk.1.2) (.slice Ao12 t104.length co12)) (fun _ hk => hk.2) (.int .i64 a0_0)) (fun _ hk => hk.2) (.int .i64 a0_1)) (fun _ hk => hk.2) (.slice Ao12 t104.length co12)) (fun _ hk => trivial), by repeat (first | (with_reducible first | exact HB.out | apply zB | apply zC | apply zD | refine zE ?_ GE101.out | refine zE ?_ GE102.out | refine zE ?_ GE103.out) | exact HB.out)⟩
def laws_eqRule.f (k : Nat) (a0_0 : Int) (l0_1 : List Int) (a1_0 : Int) (l1_1 : List Int) : Option (Bool) := if a0_0 = a1_0 then ((laws_eqIntS.f k l0_1 l1_1).bind fun t103 => (if t103 = true then (some true) else (some false))) else (some false)
set_option maxHeartbeats 8000000 in
set_option maxRecDepth 100000 in
theorem laws_eqRule.calls (k : Nat) (a0_0 : Int) (A0_1 : Option Addr) (c0_1 : Nat) (l0_1 : List Int) (a1_0 : Int) (A1_1 : Option Addr) (c1_1 : Nat) (l1_1 : List Int) (r : Bool) (w : World) (hr0_1 : Kd.C (Kd.int .i64) w A0_1 l0_1.length l0_1) (hc0_1 : l0_1.length ≤ c0_1) (hr1_1 : Kd.C (Kd.int .i64) w A1_1 l1_1.length l1_1) (hc1_1 : l1_1.length ≤ c1_1) (h : laws_eqRule.f k a0_0 l0_1 a1_0 l1_1 = some r) :
 Calls Try.prog 104 #[.agg #[.int .i64 a0_0, .slice A0_1 l0_1.length c0_1], .agg #[.int .i64 a1_0, .slice A1_1 l1_1.length c1_1]] w fun e w' => e = .returned (.bool r) ∧ Below w.heap.size w w' := by
 have hu87 := Try.underlying87; have HR0_1 := zA hr0_1; have HC0_1 := zA hc0_1; clear hr0_1 hc0_1; have HR1_1 := zA hr1_1; have HC1_1 := zA hc1_1; clear hr1_1 hc1_1; have HB := zA (Below.refl w.heap.size w); have H : (if a0_0 = a1_0 then ((laws_eqIntS.f k l0_1 l1_1).bind fun t103 => (if t103 = true then (some true) else (some false))) else (some false)) = some r := h; clear h; by_cases c3 : a0_0 = a1_0
 · rw [if_pos c3] at H; have c3b0 : (a0_0 == a1_0) = true := beq_iff_eq.mpr c3; have c3b1 : (a0_0 != a1_0) = false := bne_eq_false_iff_eq.mpr c3; clear c3; replace H := Option.bind_eq_some_iff.mp H; obtain ⟨t103, A40, H⟩ := H; replace H : (if t103 = true then (some true) else (some false)) = some r := H; have A4 := zA A40; clear A40; by_cases c5 : t103 = true
   · subst c5; have H1 : (some true) = some r := by rw [if_pos rfl] at H; exact H
     clear H; have H := H1; clear H1; obtain rfl := Option.some.inj H; go_enter Try.func104, Try.ntmps104; go_wp2_with (first | ((with_reducible refine gate_dst (N := 2) rfl ?_); refine box_event ?hg (N := 2) ?hd (cs := #[.int .i64 a0_0, .slice A0_1 l0_1.length c0_1]) (t := 87) ?hr ?_; (case hd => rfl); (case hg => rfl); (case hr => first | (go_simp; done) | (go_simp; rfl)); intro gb101 hg w6 hbox hb; have n0_ := zA (zG (by repeat (first | (with_reducible first | exact HB.out | apply zB | apply zC | apply zD) | exact HB.out)) hb); have n1_ := zA (hbox); have n2_ := zA ((by rw [hg]; exact (zF (by repeat (first | (with_reducible first | exact HB.out | apply zB | apply zC | apply zD) | exact HB.out))) : w.heap.size ≤ gb101)); have n3_ := zA ((by rw [hg]; exact (zF (by repeat (first | (with_reducible first | exact HB.out | apply zB | apply zC | apply zD) | exact HB.out))) : w.heap.size ≤ gb101)); clear HB; have HB := n0_; have BK101 := n1_; have GW101 := n2_; have GE101 := n3_; clear n0_ n1_ n2_ n3_; clear hb hbox hg) | ((with_reducible refine gate_dst (N := 3) rfl ?_); refine box_event ?hg (N := 3) ?hd (cs := #[.int .i64 a1_0, .slice A1_1 l1_1.length c1_1]) (t := 87) ?hr ?_; (case hd => rfl); (case hg => rfl); (case hr => first | (go_simp; done) | (go_simp; rfl)); intro gb102 hg w7 hbox hb; have n0_ := zA (zM (g := gb101) (o := .cells #[.int .i64 a0_0, .slice A0_1 l0_1.length c0_1] 87 (0, 0)) (by (with_reducible repeat (first | refine zI ?_ _ | refine zJ ?_ | refine zH ?_ _)); exact BK101.out) hb); have n1_ := zA (zG (by repeat (first | (with_reducible first | exact HB.out | apply zB | apply zC | apply zD | refine zE ?_ GE101.out) | exact HB.out)) hb); have n2_ := zA (hbox); have n3_ := zA ((by rw [hg]; exact (zF (by repeat (first | (with_reducible first | exact HB.out | apply zB | apply zC | apply zD | refine zE ?_ GE101.out) | exact HB.out))) : w.heap.size ≤ gb102)); have n4_ := zA ((by rw [hg]; exact (zF (by repeat (first | (with_reducible first | exact HB.out | apply zB | apply zC | apply zD | refine zE ?_ GE101.out) | exact HB.out))) : w.heap.size ≤ gb102)); have n5_ := zA ((by rw [hg]; exact Nat.ne_of_lt (blk_lt (g := gb101) (o := .cells #[.int .i64 a0_0, .slice A0_1 l0_1.length c0_1] 87 (0, 0)) (by (with_reducible repeat (first | refine zI ?_ _ | refine zJ ?_ | refine zH ?_ _)); exact BK101.out)) : gb101 ≠ gb102)); have n6_ := zA ((by rw [hg]; exact Nat.ne_of_gt (blk_lt (g := gb101) (o := .cells #[.int .i64 a0_0, .slice A0_1 l0_1.length c0_1] 87 (0, 0)) (by (with_reducible repeat (first | refine zI ?_ _ | refine zJ ?_ | refine zH ?_ _)); exact BK101.out)) : gb102 ≠ gb101)); clear BK101; clear HB; have BK101 := n0_; have HB := n1_; have BK102 := n2_; have GW102 := n3_; have GE102 := n4_; have NB101_102 := n5_; have NB102_101 := n6_; clear n0_ n1_ n2_ n3_ n4_ n5_ n6_; clear hb hbox hg; have hnb8 := NB101_102.out; have hnc8 := NB102_101.out; have hcz9_0 : w7.cell? ⟨gb101, 0, none⟩ = some (.int .i64 a0_0) := (zK BK101.out 0).trans rfl; have hcz9_1 : w7.cell? ⟨gb101, 1, none⟩ = some (.slice A0_1 l0_1.length c0_1) := (zK BK101.out 1).trans rfl; have hfz9_0 := zL BK101.out 0; have hfz9_1 := zL BK101.out 1; have hcz10_0 : w7.cell? ⟨gb102, 0, none⟩ = some (.int .i64 a1_0) := (zK BK102.out 0).trans rfl; have hcz10_1 : w7.cell? ⟨gb102, 1, none⟩ = some (.slice A1_1 l1_1.length c1_1) := (zK BK102.out 1).trans rfl; have hfz10_0 := zL BK102.out 0; have hfz10_1 := zL BK102.out 1) | ((with_reducible refine gate_callee (f := 27) rfl ?_); refine goesL_ (some 14) rfl rfl Try.func27 (by kernel_rfl) rfl #[.slice A0_1 l0_1.length c0_1, .slice A1_1 l1_1.length c1_1] rfl (by (try simp only [List.map_toArray, List.map_cons, List.map_nil]); first | done | rfl | (simp only [List.length_drop, List.length_take]; rfl)) ?_; (with_reducible refine (laws_eqIntS.calls k _ _ l0_1 _ _ l1_1 true _ ?side1 ?side2 ?side3 ?side4 A4.out).mono ?_); (case side1 => repeat (first | exact (zS HR0_1.out HB.out) | refine Kd.C_alloc ?_ _ | refine Kd.C_drewN ?_ _ | refine Kd.C_drew ?_)); (case side2 => exact HC0_1.out); (case side3 => repeat (first | exact (zS HR1_1.out HB.out) | refine Kd.C_alloc ?_ _ | refine Kd.C_drewN ?_ _ | refine Kd.C_drew ?_)); (case side4 => exact HC1_1.out); rintro e w' ⟨rfl, ⟨nd, rfl⟩⟩; refine ⟨_, rfl, ?_⟩)); go_ret; exact ⟨by first | rfl | (simp [errW_none, errW_some] <;> rfl) | (simp [*, errW_none, errW_some] <;> rfl), by repeat (first | (with_reducible first | exact HB.out | apply zB | apply zC | apply zD | refine zE ?_ GE101.out | refine zE ?_ GE102.out) | exact HB.out)⟩
   · replace c5 := Bool.eq_false_iff.mpr c5; subst c5; have H1 : (some false) = some r := by rw [if_neg (show ¬ (false = true) by decide)] at H; exact H
     clear H; have H := H1; clear H1; obtain rfl := Option.some.inj H; go_enter Try.func104, Try.ntmps104; go_wp2_with (first | ((with_reducible refine gate_dst (N := 2) rfl ?_); refine box_event ?hg (N := 2) ?hd (cs := #[.int .i64 a0_0, .slice A0_1 l0_1.length c0_1]) (t := 87) ?hr ?_; (case hd => rfl); (case hg => rfl); (case hr => first | (go_simp; done) | (go_simp; rfl)); intro gb101 hg w11 hbox hb; have n0_ := zA (zG (by repeat (first | (with_reducible first | exact HB.out | apply zB | apply zC | apply zD) | exact HB.out)) hb); have n1_ := zA (hbox); have n2_ := zA ((by rw [hg]; exact (zF (by repeat (first | (with_reducible first | exact HB.out | apply zB | apply zC | apply zD) | exact HB.out))) : w.heap.size ≤ gb101)); have n3_ := zA ((by rw [hg]; exact (zF (by repeat (first | (with_reducible first | exact HB.out | apply zB | apply zC | apply zD) | exact HB.out))) : w.heap.size ≤ gb101)); clear HB; have HB := n0_; have BK101 := n1_; have GW101 := n2_; have GE101 := n3_; clear n0_ n1_ n2_ n3_; clear hb hbox hg) | ((with_reducible refine gate_dst (N := 3) rfl ?_); refine box_event ?hg (N := 3) ?hd (cs := #[.int .i64 a1_0, .slice A1_1 l1_1.length c1_1]) (t := 87) ?hr ?_; (case hd => rfl); (case hg => rfl); (case hr => first | (go_simp; done) | (go_simp; rfl)); intro gb102 hg w12 hbox hb; have n0_ := zA (zM (g := gb101) (o := .cells #[.int .i64 a0_0, .slice A0_1 l0_1.length c0_1] 87 (0, 0)) (by (with_reducible repeat (first | refine zI ?_ _ | refine zJ ?_ | refine zH ?_ _)); exact BK101.out) hb); have n1_ := zA (zG (by repeat (first | (with_reducible first | exact HB.out | apply zB | apply zC | apply zD | refine zE ?_ GE101.out) | exact HB.out)) hb); have n2_ := zA (hbox); have n3_ := zA ((by rw [hg]; exact (zF (by repeat (first | (with_reducible first | exact HB.out | apply zB | apply zC | apply zD | refine zE ?_ GE101.out) | exact HB.out))) : w.heap.size ≤ gb102)); have n4_ := zA ((by rw [hg]; exact (zF (by repeat (first | (with_reducible first | exact HB.out | apply zB | apply zC | apply zD | refine zE ?_ GE101.out) | exact HB.out))) : w.heap.size ≤ gb102)); have n5_ := zA ((by rw [hg]; exact Nat.ne_of_lt (blk_lt (g := gb101) (o := .cells #[.int .i64 a0_0, .slice A0_1 l0_1.length c0_1] 87 (0, 0)) (by (with_reducible repeat (first | refine zI ?_ _ | refine zJ ?_ | refine zH ?_ _)); exact BK101.out)) : gb101 ≠ gb102)); have n6_ := zA ((by rw [hg]; exact Nat.ne_of_gt (blk_lt (g := gb101) (o := .cells #[.int .i64 a0_0, .slice A0_1 l0_1.length c0_1] 87 (0, 0)) (by (with_reducible repeat (first | refine zI ?_ _ | refine zJ ?_ | refine zH ?_ _)); exact BK101.out)) : gb102 ≠ gb101)); clear BK101; clear HB; have BK101 := n0_; have HB := n1_; have BK102 := n2_; have GW102 := n3_; have GE102 := n4_; have NB101_102 := n5_; have NB102_101 := n6_; clear n0_ n1_ n2_ n3_ n4_ n5_ n6_; clear hb hbox hg; have hnb13 := NB101_102.out; have hnc13 := NB102_101.out; have hcz14_0 : w12.cell? ⟨gb101, 0, none⟩ = some (.int .i64 a0_0) := (zK BK101.out 0).trans rfl; have hcz14_1 : w12.cell? ⟨gb101, 1, none⟩ = some (.slice A0_1 l0_1.length c0_1) := (zK BK101.out 1).trans rfl; have hfz14_0 := zL BK101.out 0; have hfz14_1 := zL BK101.out 1; have hcz15_0 : w12.cell? ⟨gb102, 0, none⟩ = some (.int .i64 a1_0) := (zK BK102.out 0).trans rfl; have hcz15_1 : w12.cell? ⟨gb102, 1, none⟩ = some (.slice A1_1 l1_1.length c1_1) := (zK BK102.out 1).trans rfl; have hfz15_0 := zL BK102.out 0; have hfz15_1 := zL BK102.out 1) | ((with_reducible refine gate_callee (f := 27) rfl ?_); refine goesL_ (some 14) rfl rfl Try.func27 (by kernel_rfl) rfl #[.slice A0_1 l0_1.length c0_1, .slice A1_1 l1_1.length c1_1] rfl (by (try simp only [List.map_toArray, List.map_cons, List.map_nil]); first | done | rfl | (simp only [List.length_drop, List.length_take]; rfl)) ?_; (with_reducible refine (laws_eqIntS.calls k _ _ l0_1 _ _ l1_1 false _ ?side1 ?side2 ?side3 ?side4 A4.out).mono ?_); (case side1 => repeat (first | exact (zS HR0_1.out HB.out) | refine Kd.C_alloc ?_ _ | refine Kd.C_drewN ?_ _ | refine Kd.C_drew ?_)); (case side2 => exact HC0_1.out); (case side3 => repeat (first | exact (zS HR1_1.out HB.out) | refine Kd.C_alloc ?_ _ | refine Kd.C_drewN ?_ _ | refine Kd.C_drew ?_)); (case side4 => exact HC1_1.out); rintro e w' ⟨rfl, ⟨nd, rfl⟩⟩; refine ⟨_, rfl, ?_⟩)); go_ret; exact ⟨by first | rfl | (simp [errW_none, errW_some] <;> rfl) | (simp [*, errW_none, errW_some] <;> rfl), by repeat (first | (with_reducible first | exact HB.out | apply zB | apply zC | apply zD | refine zE ?_ GE101.out | refine zE ?_ GE102.out) | exact HB.out)⟩
 · rw [if_neg c3] at H; have c3b0 : (a0_0 == a1_0) = false := beq_eq_false_iff_ne.mpr c3; have c3b1 : (a0_0 != a1_0) = true := bne_iff_ne.mpr c3; obtain rfl := Option.some.inj H; go_enter Try.func104, Try.ntmps104; go_wp2_with (first | ((with_reducible refine gate_dst (N := 2) rfl ?_); refine box_event ?hg (N := 2) ?hd (cs := #[.int .i64 a0_0, .slice A0_1 l0_1.length c0_1]) (t := 87) ?hr ?_; (case hd => rfl); (case hg => rfl); (case hr => first | (go_simp; done) | (go_simp; rfl)); intro gb101 hg w16 hbox hb; have n0_ := zA (zG (by repeat (first | (with_reducible first | exact HB.out | apply zB | apply zC | apply zD) | exact HB.out)) hb); have n1_ := zA (hbox); have n2_ := zA ((by rw [hg]; exact (zF (by repeat (first | (with_reducible first | exact HB.out | apply zB | apply zC | apply zD) | exact HB.out))) : w.heap.size ≤ gb101)); have n3_ := zA ((by rw [hg]; exact (zF (by repeat (first | (with_reducible first | exact HB.out | apply zB | apply zC | apply zD) | exact HB.out))) : w.heap.size ≤ gb101)); clear HB; have HB := n0_; have BK101 := n1_; have GW101 := n2_; have GE101 := n3_; clear n0_ n1_ n2_ n3_; clear hb hbox hg) | ((with_reducible refine gate_dst (N := 3) rfl ?_); refine box_event ?hg (N := 3) ?hd (cs := #[.int .i64 a1_0, .slice A1_1 l1_1.length c1_1]) (t := 87) ?hr ?_; (case hd => rfl); (case hg => rfl); (case hr => first | (go_simp; done) | (go_simp; rfl)); intro gb102 hg w17 hbox hb; have n0_ := zA (zM (g := gb101) (o := .cells #[.int .i64 a0_0, .slice A0_1 l0_1.length c0_1] 87 (0, 0)) (by (with_reducible repeat (first | refine zI ?_ _ | refine zJ ?_ | refine zH ?_ _)); exact BK101.out) hb); have n1_ := zA (zG (by repeat (first | (with_reducible first | exact HB.out | apply zB | apply zC | apply zD | refine zE ?_ GE101.out) | exact HB.out)) hb); have n2_ := zA (hbox); have n3_ := zA ((by rw [hg]; exact (zF (by repeat (first | (with_reducible first | exact HB.out | apply zB | apply zC | apply zD | refine zE ?_ GE101.out) | exact HB.out))) : w.heap.size ≤ gb102)); have n4_ := zA ((by rw [hg]; exact (zF (by repeat (first | (with_reducible first | exact HB.out | apply zB | apply zC | apply zD | refine zE ?_ GE101.out) | exact HB.out))) : w.heap.size ≤ gb102)); have n5_ := zA ((by rw [hg]; exact Nat.ne_of_lt (blk_lt (g := gb101) (o := .cells #[.int .i64 a0_0, .slice A0_1 l0_1.length c0_1] 87 (0, 0)) (by (with_reducible repeat (first | refine zI ?_ _ | refine zJ ?_ | refine zH ?_ _)); exact BK101.out)) : gb101 ≠ gb102)); have n6_ := zA ((by rw [hg]; exact Nat.ne_of_gt (blk_lt (g := gb101) (o := .cells #[.int .i64 a0_0, .slice A0_1 l0_1.length c0_1] 87 (0, 0)) (by (with_reducible repeat (first | refine zI ?_ _ | refine zJ ?_ | refine zH ?_ _)); exact BK101.out)) : gb102 ≠ gb101)); clear BK101; clear HB; have BK101 := n0_; have HB := n1_; have BK102 := n2_; have GW102 := n3_; have GE102 := n4_; have NB101_102 := n5_; have NB102_101 := n6_; clear n0_ n1_ n2_ n3_ n4_ n5_ n6_; clear hb hbox hg; have hnb18 := NB101_102.out; have hnc18 := NB102_101.out; have hcz19_0 : w17.cell? ⟨gb101, 0, none⟩ = some (.int .i64 a0_0) := (zK BK101.out 0).trans rfl; have hcz19_1 : w17.cell? ⟨gb101, 1, none⟩ = some (.slice A0_1 l0_1.length c0_1) := (zK BK101.out 1).trans rfl; have hfz19_0 := zL BK101.out 0; have hfz19_1 := zL BK101.out 1; have hcz20_0 : w17.cell? ⟨gb102, 0, none⟩ = some (.int .i64 a1_0) := (zK BK102.out 0).trans rfl; have hcz20_1 : w17.cell? ⟨gb102, 1, none⟩ = some (.slice A1_1 l1_1.length c1_1) := (zK BK102.out 1).trans rfl; have hfz20_0 := zL BK102.out 0; have hfz20_1 := zL BK102.out 1)); go_ret; exact ⟨by first | rfl | (simp [errW_none, errW_some] <;> rfl) | (simp [*, errW_none, errW_some] <;> rfl), by repeat (first | (with_reducible first | exact HB.out | apply zB | apply zC | apply zD | refine zE ?_ GE101.out | refine zE ?_ GE102.out) | exact HB.out)⟩
def laws_eqRuleS.l0 : Nat → List (S87) → List (S87) → Int → Option (Bool)
 | 0, _, _, _ => none
 | k + 1, x0, x1, x5 => if x5 < (x0.length : Int) then (if 0 ≤ x5 then (if x5 < (x1.length : Int) then ((laws_eqRule.f k ((rd_T87 x0 x5).f0) ((rd_T87 x0 x5).f1) ((rd_T87 x1 x5).f0) ((rd_T87 x1 x5).f1)).bind fun t103 => (if t103 = true then (laws_eqRuleS.l0 k x0 x1 (wrap64 (x5 + 1))) else (some false))) else (none)) else (none)) else (some true)
def laws_eqRuleS.f (k : Nat) (l0 : List (S87)) (l1 : List (S87)) : Option (Bool) := if (l0.length : Int) = (l1.length : Int) then (laws_eqRuleS.l0 k l0 l1 0) else (some false)
def laws_eqRuleS.T6 : Bool × List (List Nat × List Nat) := (true, [([], []), ([], []), ([0, 1], [0, 1]), ([2], [2]), ([], []), ([], []), ([4, 5], [4, 5]), ([6], [6]), ([3, 7], [3, 7]), ([8], [8])])
def laws_eqRuleS.B6 : List Nat := [0, 0, 3, 7, 0, 0, 48, 112, 255, 511]
theorem laws_eqRuleS.tab6 : rtab .any (opsOf Try.f57 6) = laws_eqRuleS.T6 := by kernel_rfl
theorem laws_eqRuleS.bits6 : waitsOk laws_eqRuleS.T6.2 laws_eqRuleS.B6 = true := by kernel_rfl
set_option maxHeartbeats 8000000 in
set_option maxRecDepth 100000 in
theorem laws_eqRuleS.calls (k : Nat) (A0 : Option Addr) (c0 : Nat) (l0 : List (S87)) (A1 : Option Addr) (c1 : Nat) (l1 : List (S87)) (r : Bool) (w : World) (hr0 : Kd.C k87 w A0 l0.length l0) (hc0 : l0.length ≤ c0) (hr1 : Kd.C k87 w A1 l1.length l1) (hc1 : l1.length ≤ c1) (h : laws_eqRuleS.f k l0 l1 = some r) :
 Calls Try.prog 57 #[.slice A0 l0.length c0, .slice A1 l1.length c1] w fun e w' => e = .returned (.bool r) ∧ Below w.heap.size w w' := by
 have hu87 := Try.underlying87; have HR0 := zA hr0; have HC0 := zA hc0; clear hr0 hc0; have HR1 := zA hr1; have HC1 := zA hc1; clear hr1 hc1; have HB := zA (Below.refl w.heap.size w); have H : (if (l0.length : Int) = (l1.length : Int) then (laws_eqRuleS.l0 k l0 l1 0) else (some false)) = some r := h; clear h; by_cases c3 : (l0.length : Int) = (l1.length : Int)
 · rw [if_pos c3] at H; have c3b0 : ((l0.length : Int) == (l1.length : Int)) = true := beq_iff_eq.mpr c3; have c3b1 : ((l0.length : Int) != (l1.length : Int)) = false := bne_eq_false_iff_eq.mpr c3; have c3b2 : (l0.length == l1.length) = true := by first | simpa using c3 | (simp at c3 ⊢; omega)
   clear c3; have H' := zA H; clear H; go_enter Try.func57, Try.ntmps57; go_wp2; go_loopg [5] k (fun kq v5 w' => ∃ (x5_1 : Int), v5 = .int .i64 x5_1 ∧ Aside0 (laws_eqRuleS.l0 kq l0 l1 x5_1 = some r) ∧ Aside0 (kq ≤ k) ∧ Aside0 (Below w.heap.size w w'))
   case atStart => exact ⟨(0), (by first | rfl | (simp; done) | (simp [*]; done)), H', ⟨Nat.le_refl _⟩, ⟨by repeat (first | (with_reducible first | exact HB.out | apply zB | apply zC | apply zD) | exact HB.out)⟩⟩
   case round =>
    clear H'; (try clear c1); (try clear p2); (try clear c3); (try clear c3b0); (try clear c3b1); (try clear c3b2); obtain ⟨x5_1, rfl, HA, HK1, HB⟩ := hrel; cases gk with
    | zero => exact absurd HA.out (by simp [laws_eqRuleS.l0])
    | succ k1 =>
     have H := HA.out; clear HA; simp only [laws_eqRuleS.l0] at H; by_cases c4 : x5_1 < (l0.length : Int)
     · rw [if_pos c4] at H; have c4b0 : decide (x5_1 < (l0.length : Int)) = true := decide_eq_true c4; clear c4; by_cases c5 : 0 ≤ x5_1
       · rw [if_pos c5] at H; have c5b0 : decide (0 ≤ x5_1) = true := decide_eq_true c5; clear c5; by_cases c6 : x5_1 < (l1.length : Int)
         · rw [if_pos c6] at H; have c6b0 : decide (x5_1 < (l1.length : Int)) = true := decide_eq_true c6; clear c6; replace H := Option.bind_eq_some_iff.mp H; obtain ⟨t103, A70, H⟩ := H; replace H : (if t103 = true then (laws_eqRuleS.l0 k1 l0 l1 (wrap64 (x5_1 + 1))) else (some false)) = some r := H; have A7 := zA A70; clear A70; by_cases c8 : t103 = true
           · subst c8; have H1 : (laws_eqRuleS.l0 k1 l0 l1 (wrap64 (x5_1 + 1))) = some r := by rw [if_pos rfl] at H; exact H
             clear H; have H := H1; clear H1; have H' := zA H; clear H; (try go_wp2); have n0_ := zA (zD HB.out); clear HB; have HB := n0_; clear n0_; have p101 : 0 ≤ (x5_1 : Int) := of_decide_eq_true (by assumption); have q101 : x5_1 < (l0.length : Int) := of_decide_eq_true (by assumption); obtain ⟨ad101, A101_1, c101_1, e101, hx101_0, hx101_1, hl101_1, hi101_1⟩ := at_T87 HR0.out x5_1 p101 q101; have hw101_1 := hx101_1; have hw101_0 := hx101_0; cases e101; replace hx101_0 := (HB.out.cell (World.block_lt_of_cell? w _ hx101_0)).trans hx101_0; replace hx101_1 := (HB.out.cell (World.block_lt_of_cell? w _ hx101_1)).trans hx101_1; have HR101_1 := zA hi101_1; have HC101_1 := zA hl101_1; clear hi101_1 hl101_1; replace p101 := eq_true p101; replace q101 := eq_true q101; have p102 : 0 ≤ (x5_1 : Int) := of_decide_eq_true (by assumption); have q102 : x5_1 < (l1.length : Int) := of_decide_eq_true (by assumption); obtain ⟨ad102, A102_1, c102_1, e102, hx102_0, hx102_1, hl102_1, hi102_1⟩ := at_T87 HR1.out x5_1 p102 q102; have hw102_1 := hx102_1; have hw102_0 := hx102_0; cases e102; replace hx102_0 := (HB.out.cell (World.block_lt_of_cell? w _ hx102_0)).trans hx102_0; replace hx102_1 := (HB.out.cell (World.block_lt_of_cell? w _ hx102_1)).trans hx102_1; have HR102_1 := zA hi102_1; have HC102_1 := zA hl102_1; clear hi102_1 hl102_1; replace p102 := eq_true p102; replace q102 := eq_true q102; refine start_ (n := 10) (S := fun w' => w'.cell? (ad101.add ((x5_1).toNat * 2)) = some (.int .i64 ((rd_T87 l0 x5_1).f0)) ∧ w'.cell? ⟨(ad101.add ((x5_1).toNat * 2)).block, (ad101.add ((x5_1).toNat * 2)).off + 1, none⟩ = some (.slice A101_1 ((rd_T87 l0 x5_1).f1).length c101_1) ∧ w'.cell? (ad102.add ((x5_1).toNat * 2)) = some (.int .i64 ((rd_T87 l1 x5_1).f0)) ∧ w'.cell? ⟨(ad102.add ((x5_1).toNat * 2)).block, (ad102.add ((x5_1).toNat * 2)).off + 1, none⟩ = some (.slice A102_1 ((rd_T87 l1 x5_1).f1).length c102_1)) (ds := []) #[zf, zf, zf, zf, zf, zf, zf, zf, zf, zf] (by kernel_rfl) rfl rfl ⟨((HB.out.cell (World.block_lt_of_cell? w _ hw101_0)).trans hw101_0), ((HB.out.cell (World.block_lt_of_cell? w _ hw101_1)).trans hw101_1), ((HB.out.cell (World.block_lt_of_cell? w _ hw102_0)).trans hw102_0), ((HB.out.cell (World.block_lt_of_cell? w _ hw102_1)).trans hw102_1)⟩ (fun hHeld => ?_); refine with_tabW laws_eqRuleS.tab6 laws_eqRuleS.bits6 (fun HT_ HW_ => ?_); generalize wr.drew = w9 at HB HR101_1 HR102_1 hx101_0 hx101_1 hx102_0 hx102_1 hHeld ⊢; refine pure_ (i := 0) (N := some 17) (v := ?_) (a' := ?_) #[zt, zf, zf, zf, zf, zf, zf, zf, zf, zf] rfl rfl (any_of HT_.out (by kernel_rfl)) (fun _ _ _ h => h) (Or.inl ⟨by rfl, ?_⟩) ?_ ?_; rotate_left
             · intro w'; go_simp; with_reducible rfl
             rotate_left
             · simp only [Act.put, List.setIfInBounds_toArray, List.set_cons_zero, List.set_cons_succ, i64_w, i32_w]; rfl
             refine pure_ (i := 1) (N := some 18) (v := ?_) (a' := ?_) #[zt, zt, zf, zf, zf, zf, zf, zf, zf, zf] rfl rfl (any_of HT_.out (by kernel_rfl)) (fun _ _ _ h => h) (Or.inl ⟨by rfl, ?_⟩) ?_ ?_; rotate_left
             · intro w'; go_simp; with_reducible rfl
             rotate_left
             · simp only [Act.put, List.setIfInBounds_toArray, List.set_cons_zero, List.set_cons_succ, i64_w, i32_w]; rfl
             refine pure_ (i := 2) (N := some 19) (v := ?_) (a' := ?_) #[zt, zt, zt, zf, zf, zf, zf, zf, zf, zf] rfl rfl (any_of HT_.out (by kernel_rfl)) (fun _ _ _ h => h) (Or.inl ⟨by rfl, ?_⟩) ?_ ?_; rotate_left
             · intro w'; go_simp; with_reducible rfl
             rotate_left
             · simp only [Act.put, List.setIfInBounds_toArray, List.set_cons_zero, List.set_cons_succ, i64_w, i32_w]; rfl
             refine pure_ (i := 4) (N := some 21) (v := ?_) (a' := ?_) #[zt, zt, zt, zf, zt, zf, zf, zf, zf, zf] rfl rfl (any_of HT_.out (by kernel_rfl)) (fun _ _ _ h => h) (Or.inl ⟨by rfl, ?_⟩) ?_ ?_; rotate_left
             · intro w'; go_simp; with_reducible rfl
             rotate_left
             · simp only [Act.put, List.setIfInBounds_toArray, List.set_cons_zero, List.set_cons_succ, i64_w, i32_w]; rfl
             refine pure_ (i := 5) (N := some 22) (v := ?_) (a' := ?_) #[zt, zt, zt, zf, zt, zt, zf, zf, zf, zf] rfl rfl (any_of HT_.out (by kernel_rfl)) (fun _ _ _ h => h) (Or.inl ⟨by rfl, ?_⟩) ?_ ?_; rotate_left
             · intro w'; go_simp; with_reducible rfl
             rotate_left
             · simp only [Act.put, List.setIfInBounds_toArray, List.set_cons_zero, List.set_cons_succ, i64_w, i32_w]; rfl
             refine pure_ (i := 6) (N := some 23) (v := ?_) (a' := ?_) #[zt, zt, zt, zf, zt, zt, zt, zf, zf, zf] rfl rfl (any_of HT_.out (by kernel_rfl)) (fun _ _ _ h => h) (Or.inl ⟨by rfl, ?_⟩) ?_ ?_; rotate_left
             · intro w'; go_simp; with_reducible rfl
             rotate_left
             · simp only [Act.put, List.setIfInBounds_toArray, List.set_cons_zero, List.set_cons_succ, i64_w, i32_w]; rfl
             refine take_ (i := 3) (N := some 20) (v := ?_) (a' := ?_) #[zt, zt, zt, zt, zt, zt, zt, zf, zf, zf] rfl rfl (take_ofW HT_.out HW_.out (by kernel_rfl)) (fun _ _ _ h => h) (Or.inl ⟨by rfl, ?_⟩) hHeld ?_ ?_; rotate_left
             · rintro w' ⟨s0, s1, s2, s3⟩; go_simp; with_reducible rfl
             rotate_left
             · simp only [Act.put, List.setIfInBounds_toArray, List.set_cons_zero, List.set_cons_succ, i64_w, i32_w]; rfl
             refine take_ (i := 7) (N := some 24) (v := ?_) (a' := ?_) #[zt, zt, zt, zt, zt, zt, zt, zt, zf, zf] rfl rfl (take_ofW HT_.out HW_.out (by kernel_rfl)) (fun _ _ _ h => h) (Or.inl ⟨by rfl, ?_⟩) hHeld ?_ ?_; rotate_left
             · rintro w' ⟨s0, s1, s2, s3⟩; go_simp; with_reducible rfl
             rotate_left
             · simp only [Act.put, List.setIfInBounds_toArray, List.set_cons_zero, List.set_cons_succ, i64_w, i32_w]; rfl
             refine one_ (i := 8) (N := some 25) #[zt, zt, zt, zt, zt, zt, zt, zt, zt, zf] rfl rfl (one_of HT_.out (by kernel_rfl)) (by decide) (fun K hK => ?_); refine goes_ Try.func104 (by kernel_rfl) rfl #[.agg #[.int .i64 ((rd_T87 l0 x5_1).f0), .slice A101_1 ((rd_T87 l0 x5_1).f1).length c101_1], .agg #[.int .i64 ((rd_T87 l1 x5_1).f0), .slice A102_1 ((rd_T87 l1 x5_1).f1).length c102_1]] (by rfl) rfl rfl (by (try simp only [List.map_toArray, List.map_cons, List.map_nil]); first | done | rfl | (simp only [List.length_drop, List.length_take]; rfl)) ?_; (with_reducible refine (laws_eqRule.calls k1 ((rd_T87 l0 x5_1).f0) _ _ ((rd_T87 l0 x5_1).f1) ((rd_T87 l1 x5_1).f0) _ _ ((rd_T87 l1 x5_1).f1) true _ ?side1 ?side2 ?side3 ?side4 A7.out).mono ?_); (case side1 => repeat (first | exact (zS HR101_1.out HB.out) | refine Kd.C_alloc ?_ _ | refine Kd.C_drewN ?_ _ | refine Kd.C_drew ?_)); (case side2 => exact HC101_1.out); (case side3 => repeat (first | exact (zS HR102_1.out HB.out) | refine Kd.C_alloc ?_ _ | refine Kd.C_drewN ?_ _ | refine Kd.C_drew ?_)); (case side4 => exact HC102_1.out); rintro e w10 ⟨rfl, hb⟩; refine ⟨_, rfl, ?_⟩; have n0_ := zA (zG (by repeat (first | (with_reducible first | exact HB.out | apply zB | apply zC | apply zD) | exact HB.out)) hb); clear HB; have HB := n0_; clear n0_; (try clear hb); (try clear hb2); (try clear hk); (try clear hi); refine hK.out _ _ ⟨((HB.out.cell (World.block_lt_of_cell? w _ hw101_0)).trans hw101_0), ((HB.out.cell (World.block_lt_of_cell? w _ hw101_1)).trans hw101_1), ((HB.out.cell (World.block_lt_of_cell? w _ hw102_0)).trans hw102_0), ((HB.out.cell (World.block_lt_of_cell? w _ hw102_1)).trans hw102_1)⟩ (fun hHeld => ?_); clear hK K; refine norm_ (a' := ?_) ?_ ?_; rotate_left
             · show Act.put _ (some 25) _ = _; simp only [Act.put, List.setIfInBounds_toArray, List.set_cons_zero, List.set_cons_succ, i64_w, i32_w]; rfl
             refine pure_ (i := 9) (N := some 26) (v := ?_) (a' := ?_) #[zt, zt, zt, zt, zt, zt, zt, zt, zt, zt] rfl rfl (any_of HT_.out (by kernel_rfl)) (fun _ _ _ h => h) (Or.inl ⟨by rfl, ?_⟩) ?_ ?_; rotate_left
             · intro w'; go_simp; with_reducible rfl
             rotate_left
             · simp only [Act.put, List.setIfInBounds_toArray, List.set_cons_zero, List.set_cons_succ, i64_w, i32_w]; rfl
             refine done_ (done_of HT_.out (by kernel_rfl)) ?_; try go_wp2
             go_roundg k1
             case measure => have := HK1.out; omega
             case rel => exact ⟨(wrap64 (x5_1 + 1)), (by first | rfl | (simp; done) | (simp [*]; done)), H', ⟨by have := HK1.out; omega⟩, ⟨by repeat (first | (with_reducible first | exact HB.out | apply zB | apply zC | apply zD) | exact HB.out)⟩⟩
           · replace c8 := Bool.eq_false_iff.mpr c8; subst c8; have H1 : (some false) = some r := by rw [if_neg (show ¬ (false = true) by decide)] at H; exact H
             clear H; have H := H1; clear H1; obtain rfl := Option.some.inj H; (try go_wp2); have n0_ := zA (zD HB.out); clear HB; have HB := n0_; clear n0_; have p101 : 0 ≤ (x5_1 : Int) := of_decide_eq_true (by assumption); have q101 : x5_1 < (l0.length : Int) := of_decide_eq_true (by assumption); obtain ⟨ad101, A101_1, c101_1, e101, hx101_0, hx101_1, hl101_1, hi101_1⟩ := at_T87 HR0.out x5_1 p101 q101; have hw101_1 := hx101_1; have hw101_0 := hx101_0; cases e101; replace hx101_0 := (HB.out.cell (World.block_lt_of_cell? w _ hx101_0)).trans hx101_0; replace hx101_1 := (HB.out.cell (World.block_lt_of_cell? w _ hx101_1)).trans hx101_1; have HR101_1 := zA hi101_1; have HC101_1 := zA hl101_1; clear hi101_1 hl101_1; replace p101 := eq_true p101; replace q101 := eq_true q101; have p102 : 0 ≤ (x5_1 : Int) := of_decide_eq_true (by assumption); have q102 : x5_1 < (l1.length : Int) := of_decide_eq_true (by assumption); obtain ⟨ad102, A102_1, c102_1, e102, hx102_0, hx102_1, hl102_1, hi102_1⟩ := at_T87 HR1.out x5_1 p102 q102; have hw102_1 := hx102_1; have hw102_0 := hx102_0; cases e102; replace hx102_0 := (HB.out.cell (World.block_lt_of_cell? w _ hx102_0)).trans hx102_0; replace hx102_1 := (HB.out.cell (World.block_lt_of_cell? w _ hx102_1)).trans hx102_1; have HR102_1 := zA hi102_1; have HC102_1 := zA hl102_1; clear hi102_1 hl102_1; replace p102 := eq_true p102; replace q102 := eq_true q102; refine start_ (n := 10) (S := fun w' => w'.cell? (ad101.add ((x5_1).toNat * 2)) = some (.int .i64 ((rd_T87 l0 x5_1).f0)) ∧ w'.cell? ⟨(ad101.add ((x5_1).toNat * 2)).block, (ad101.add ((x5_1).toNat * 2)).off + 1, none⟩ = some (.slice A101_1 ((rd_T87 l0 x5_1).f1).length c101_1) ∧ w'.cell? (ad102.add ((x5_1).toNat * 2)) = some (.int .i64 ((rd_T87 l1 x5_1).f0)) ∧ w'.cell? ⟨(ad102.add ((x5_1).toNat * 2)).block, (ad102.add ((x5_1).toNat * 2)).off + 1, none⟩ = some (.slice A102_1 ((rd_T87 l1 x5_1).f1).length c102_1)) (ds := []) #[zf, zf, zf, zf, zf, zf, zf, zf, zf, zf] (by kernel_rfl) rfl rfl ⟨((HB.out.cell (World.block_lt_of_cell? w _ hw101_0)).trans hw101_0), ((HB.out.cell (World.block_lt_of_cell? w _ hw101_1)).trans hw101_1), ((HB.out.cell (World.block_lt_of_cell? w _ hw102_0)).trans hw102_0), ((HB.out.cell (World.block_lt_of_cell? w _ hw102_1)).trans hw102_1)⟩ (fun hHeld => ?_); refine with_tabW laws_eqRuleS.tab6 laws_eqRuleS.bits6 (fun HT_ HW_ => ?_); generalize wr.drew = w11 at HB HR101_1 HR102_1 hx101_0 hx101_1 hx102_0 hx102_1 hHeld ⊢; refine pure_ (i := 0) (N := some 17) (v := ?_) (a' := ?_) #[zt, zf, zf, zf, zf, zf, zf, zf, zf, zf] rfl rfl (any_of HT_.out (by kernel_rfl)) (fun _ _ _ h => h) (Or.inl ⟨by rfl, ?_⟩) ?_ ?_; rotate_left
             · intro w'; go_simp; with_reducible rfl
             rotate_left
             · simp only [Act.put, List.setIfInBounds_toArray, List.set_cons_zero, List.set_cons_succ, i64_w, i32_w]; rfl
             refine pure_ (i := 1) (N := some 18) (v := ?_) (a' := ?_) #[zt, zt, zf, zf, zf, zf, zf, zf, zf, zf] rfl rfl (any_of HT_.out (by kernel_rfl)) (fun _ _ _ h => h) (Or.inl ⟨by rfl, ?_⟩) ?_ ?_; rotate_left
             · intro w'; go_simp; with_reducible rfl
             rotate_left
             · simp only [Act.put, List.setIfInBounds_toArray, List.set_cons_zero, List.set_cons_succ, i64_w, i32_w]; rfl
             refine pure_ (i := 2) (N := some 19) (v := ?_) (a' := ?_) #[zt, zt, zt, zf, zf, zf, zf, zf, zf, zf] rfl rfl (any_of HT_.out (by kernel_rfl)) (fun _ _ _ h => h) (Or.inl ⟨by rfl, ?_⟩) ?_ ?_; rotate_left
             · intro w'; go_simp; with_reducible rfl
             rotate_left
             · simp only [Act.put, List.setIfInBounds_toArray, List.set_cons_zero, List.set_cons_succ, i64_w, i32_w]; rfl
             refine pure_ (i := 4) (N := some 21) (v := ?_) (a' := ?_) #[zt, zt, zt, zf, zt, zf, zf, zf, zf, zf] rfl rfl (any_of HT_.out (by kernel_rfl)) (fun _ _ _ h => h) (Or.inl ⟨by rfl, ?_⟩) ?_ ?_; rotate_left
             · intro w'; go_simp; with_reducible rfl
             rotate_left
             · simp only [Act.put, List.setIfInBounds_toArray, List.set_cons_zero, List.set_cons_succ, i64_w, i32_w]; rfl
             refine pure_ (i := 5) (N := some 22) (v := ?_) (a' := ?_) #[zt, zt, zt, zf, zt, zt, zf, zf, zf, zf] rfl rfl (any_of HT_.out (by kernel_rfl)) (fun _ _ _ h => h) (Or.inl ⟨by rfl, ?_⟩) ?_ ?_; rotate_left
             · intro w'; go_simp; with_reducible rfl
             rotate_left
             · simp only [Act.put, List.setIfInBounds_toArray, List.set_cons_zero, List.set_cons_succ, i64_w, i32_w]; rfl
             refine pure_ (i := 6) (N := some 23) (v := ?_) (a' := ?_) #[zt, zt, zt, zf, zt, zt, zt, zf, zf, zf] rfl rfl (any_of HT_.out (by kernel_rfl)) (fun _ _ _ h => h) (Or.inl ⟨by rfl, ?_⟩) ?_ ?_; rotate_left
             · intro w'; go_simp; with_reducible rfl
             rotate_left
             · simp only [Act.put, List.setIfInBounds_toArray, List.set_cons_zero, List.set_cons_succ, i64_w, i32_w]; rfl
             refine take_ (i := 3) (N := some 20) (v := ?_) (a' := ?_) #[zt, zt, zt, zt, zt, zt, zt, zf, zf, zf] rfl rfl (take_ofW HT_.out HW_.out (by kernel_rfl)) (fun _ _ _ h => h) (Or.inl ⟨by rfl, ?_⟩) hHeld ?_ ?_; rotate_left
             · rintro w' ⟨s0, s1, s2, s3⟩; go_simp; with_reducible rfl
             rotate_left
             · simp only [Act.put, List.setIfInBounds_toArray, List.set_cons_zero, List.set_cons_succ, i64_w, i32_w]; rfl
             refine take_ (i := 7) (N := some 24) (v := ?_) (a' := ?_) #[zt, zt, zt, zt, zt, zt, zt, zt, zf, zf] rfl rfl (take_ofW HT_.out HW_.out (by kernel_rfl)) (fun _ _ _ h => h) (Or.inl ⟨by rfl, ?_⟩) hHeld ?_ ?_; rotate_left
             · rintro w' ⟨s0, s1, s2, s3⟩; go_simp; with_reducible rfl
             rotate_left
             · simp only [Act.put, List.setIfInBounds_toArray, List.set_cons_zero, List.set_cons_succ, i64_w, i32_w]; rfl
             refine one_ (i := 8) (N := some 25) #[zt, zt, zt, zt, zt, zt, zt, zt, zt, zf] rfl rfl (one_of HT_.out (by kernel_rfl)) (by decide) (fun K hK => ?_); refine goes_ Try.func104 (by kernel_rfl) rfl #[.agg #[.int .i64 ((rd_T87 l0 x5_1).f0), .slice A101_1 ((rd_T87 l0 x5_1).f1).length c101_1], .agg #[.int .i64 ((rd_T87 l1 x5_1).f0), .slice A102_1 ((rd_T87 l1 x5_1).f1).length c102_1]] (by rfl) rfl rfl (by (try simp only [List.map_toArray, List.map_cons, List.map_nil]); first | done | rfl | (simp only [List.length_drop, List.length_take]; rfl)) ?_; (with_reducible refine (laws_eqRule.calls k1 ((rd_T87 l0 x5_1).f0) _ _ ((rd_T87 l0 x5_1).f1) ((rd_T87 l1 x5_1).f0) _ _ ((rd_T87 l1 x5_1).f1) false _ ?side1 ?side2 ?side3 ?side4 A7.out).mono ?_); (case side1 => repeat (first | exact (zS HR101_1.out HB.out) | refine Kd.C_alloc ?_ _ | refine Kd.C_drewN ?_ _ | refine Kd.C_drew ?_)); (case side2 => exact HC101_1.out); (case side3 => repeat (first | exact (zS HR102_1.out HB.out) | refine Kd.C_alloc ?_ _ | refine Kd.C_drewN ?_ _ | refine Kd.C_drew ?_)); (case side4 => exact HC102_1.out); rintro e w12 ⟨rfl, hb⟩; refine ⟨_, rfl, ?_⟩; have n0_ := zA (zG (by repeat (first | (with_reducible first | exact HB.out | apply zB | apply zC | apply zD) | exact HB.out)) hb); clear HB; have HB := n0_; clear n0_; (try clear hb); (try clear hb2); (try clear hk); (try clear hi); refine hK.out _ _ ⟨((HB.out.cell (World.block_lt_of_cell? w _ hw101_0)).trans hw101_0), ((HB.out.cell (World.block_lt_of_cell? w _ hw101_1)).trans hw101_1), ((HB.out.cell (World.block_lt_of_cell? w _ hw102_0)).trans hw102_0), ((HB.out.cell (World.block_lt_of_cell? w _ hw102_1)).trans hw102_1)⟩ (fun hHeld => ?_); clear hK K; refine norm_ (a' := ?_) ?_ ?_; rotate_left
             · show Act.put _ (some 25) _ = _; simp only [Act.put, List.setIfInBounds_toArray, List.set_cons_zero, List.set_cons_succ, i64_w, i32_w]; rfl
             refine pure_ (i := 9) (N := some 26) (v := ?_) (a' := ?_) #[zt, zt, zt, zt, zt, zt, zt, zt, zt, zt] rfl rfl (any_of HT_.out (by kernel_rfl)) (fun _ _ _ h => h) (Or.inl ⟨by rfl, ?_⟩) ?_ ?_; rotate_left
             · intro w'; go_simp; with_reducible rfl
             rotate_left
             · simp only [Act.put, List.setIfInBounds_toArray, List.set_cons_zero, List.set_cons_succ, i64_w, i32_w]; rfl
             refine done_ (done_of HT_.out (by kernel_rfl)) ?_; (try go_wp2); go_ret; exact ⟨by first | rfl | (simp [errW_none, errW_some] <;> rfl) | (simp [*, errW_none, errW_some] <;> rfl), by repeat (first | (with_reducible first | exact HB.out | apply zB | apply zC | apply zD) | exact HB.out)⟩
         · rw [if_neg c6] at H; exact absurd H (by simp)
       · rw [if_neg c5] at H; exact absurd H (by simp)
     · rw [if_neg c4] at H; have c4b0 : decide (x5_1 < (l0.length : Int)) = false := decide_eq_false c4; clear c4; obtain rfl := Option.some.inj H; go_wp2; go_ret; exact ⟨by first | rfl | (simp [errW_none, errW_some] <;> rfl) | (simp [*, errW_none, errW_some] <;> rfl), by repeat (first | (with_reducible first | exact HB.out | apply zB | apply zC | apply zD) | exact HB.out)⟩
 · rw [if_neg c3] at H; have c3b0 : ((l0.length : Int) == (l1.length : Int)) = false := beq_eq_false_iff_ne.mpr c3; have c3b1 : ((l0.length : Int) != (l1.length : Int)) = true := bne_iff_ne.mpr c3; have c3b2 : (l0.length == l1.length) = false := by first | simpa using c3 | (simp at c3 ⊢; omega)
   obtain rfl := Option.some.inj H; go_enter Try.func57, Try.ntmps57; go_wp2; go_ret; exact ⟨by first | rfl | (simp [errW_none, errW_some] <;> rfl) | (simp [*, errW_none, errW_some] <;> rfl), by repeat (first | (with_reducible first | exact HB.out | apply zB | apply zC | apply zD) | exact HB.out)⟩
def laws_eqGrammar.f (k : Nat) (a0_0 : Int) (a0_1 : Int) (l0_2 : List (S87)) (a1_0 : Int) (a1_1 : Int) (l1_2 : List (S87)) : Option (Bool) := if a0_0 = a1_0 then (if a0_1 = a1_1 then ((laws_eqRuleS.f k l0_2 l1_2).bind fun t103 => (if t103 = true then (some true) else (some false))) else (some false)) else (some false)
set_option maxHeartbeats 8000000 in
set_option maxRecDepth 100000 in
theorem laws_eqGrammar.calls (k : Nat) (a0_0 : Int) (a0_1 : Int) (A0_2 : Option Addr) (c0_2 : Nat) (l0_2 : List (S87)) (a1_0 : Int) (a1_1 : Int) (A1_2 : Option Addr) (c1_2 : Nat) (l1_2 : List (S87)) (r : Bool) (w : World) (hr0_2 : Kd.C k87 w A0_2 l0_2.length l0_2) (hc0_2 : l0_2.length ≤ c0_2) (hr1_2 : Kd.C k87 w A1_2 l1_2.length l1_2) (hc1_2 : l1_2.length ≤ c1_2) (h : laws_eqGrammar.f k a0_0 a0_1 l0_2 a1_0 a1_1 l1_2 = some r) :
 Calls Try.prog 19 #[.agg #[.int .i64 a0_0, .int .i64 a0_1, .slice A0_2 l0_2.length c0_2], .agg #[.int .i64 a1_0, .int .i64 a1_1, .slice A1_2 l1_2.length c1_2]] w fun e w' => e = .returned (.bool r) ∧ Below w.heap.size w w' := by
 have hu28 := Try.underlying28; have HR0_2 := zA hr0_2; have HC0_2 := zA hc0_2; clear hr0_2 hc0_2; have HR1_2 := zA hr1_2; have HC1_2 := zA hc1_2; clear hr1_2 hc1_2; have HB := zA (Below.refl w.heap.size w); have H : (if a0_0 = a1_0 then (if a0_1 = a1_1 then ((laws_eqRuleS.f k l0_2 l1_2).bind fun t103 => (if t103 = true then (some true) else (some false))) else (some false)) else (some false)) = some r := h; clear h; by_cases c3 : a0_0 = a1_0
 · rw [if_pos c3] at H; have c3b0 : (a0_0 == a1_0) = true := beq_iff_eq.mpr c3; have c3b1 : (a0_0 != a1_0) = false := bne_eq_false_iff_eq.mpr c3; clear c3; by_cases c4 : a0_1 = a1_1
   · rw [if_pos c4] at H; have c4b0 : (a0_1 == a1_1) = true := beq_iff_eq.mpr c4; have c4b1 : (a0_1 != a1_1) = false := bne_eq_false_iff_eq.mpr c4; clear c4; replace H := Option.bind_eq_some_iff.mp H; obtain ⟨t103, A50, H⟩ := H; replace H : (if t103 = true then (some true) else (some false)) = some r := H; have A5 := zA A50; clear A50; by_cases c6 : t103 = true
     · subst c6; have H1 : (some true) = some r := by rw [if_pos rfl] at H; exact H
       clear H; have H := H1; clear H1; obtain rfl := Option.some.inj H; go_enter Try.func19, Try.ntmps19; go_wp2_with (first | ((with_reducible refine gate_dst (N := 2) rfl ?_); refine box_event ?hg (N := 2) ?hd (cs := #[.int .i64 a0_0, .int .i64 a0_1, .slice A0_2 l0_2.length c0_2]) (t := 28) ?hr ?_; (case hd => rfl); (case hg => rfl); (case hr => first | (go_simp; done) | (go_simp; rfl)); intro gb101 hg w7 hbox hb; have n0_ := zA (zG (by repeat (first | (with_reducible first | exact HB.out | apply zB | apply zC | apply zD) | exact HB.out)) hb); have n1_ := zA (hbox); have n2_ := zA ((by rw [hg]; exact (zF (by repeat (first | (with_reducible first | exact HB.out | apply zB | apply zC | apply zD) | exact HB.out))) : w.heap.size ≤ gb101)); have n3_ := zA ((by rw [hg]; exact (zF (by repeat (first | (with_reducible first | exact HB.out | apply zB | apply zC | apply zD) | exact HB.out))) : w.heap.size ≤ gb101)); clear HB; have HB := n0_; have BK101 := n1_; have GW101 := n2_; have GE101 := n3_; clear n0_ n1_ n2_ n3_; clear hb hbox hg) | ((with_reducible refine gate_dst (N := 3) rfl ?_); refine box_event ?hg (N := 3) ?hd (cs := #[.int .i64 a1_0, .int .i64 a1_1, .slice A1_2 l1_2.length c1_2]) (t := 28) ?hr ?_; (case hd => rfl); (case hg => rfl); (case hr => first | (go_simp; done) | (go_simp; rfl)); intro gb102 hg w8 hbox hb; have n0_ := zA (zM (g := gb101) (o := .cells #[.int .i64 a0_0, .int .i64 a0_1, .slice A0_2 l0_2.length c0_2] 28 (0, 0)) (by (with_reducible repeat (first | refine zI ?_ _ | refine zJ ?_ | refine zH ?_ _)); exact BK101.out) hb); have n1_ := zA (zG (by repeat (first | (with_reducible first | exact HB.out | apply zB | apply zC | apply zD | refine zE ?_ GE101.out) | exact HB.out)) hb); have n2_ := zA (hbox); have n3_ := zA ((by rw [hg]; exact (zF (by repeat (first | (with_reducible first | exact HB.out | apply zB | apply zC | apply zD | refine zE ?_ GE101.out) | exact HB.out))) : w.heap.size ≤ gb102)); have n4_ := zA ((by rw [hg]; exact (zF (by repeat (first | (with_reducible first | exact HB.out | apply zB | apply zC | apply zD | refine zE ?_ GE101.out) | exact HB.out))) : w.heap.size ≤ gb102)); have n5_ := zA ((by rw [hg]; exact Nat.ne_of_lt (blk_lt (g := gb101) (o := .cells #[.int .i64 a0_0, .int .i64 a0_1, .slice A0_2 l0_2.length c0_2] 28 (0, 0)) (by (with_reducible repeat (first | refine zI ?_ _ | refine zJ ?_ | refine zH ?_ _)); exact BK101.out)) : gb101 ≠ gb102)); have n6_ := zA ((by rw [hg]; exact Nat.ne_of_gt (blk_lt (g := gb101) (o := .cells #[.int .i64 a0_0, .int .i64 a0_1, .slice A0_2 l0_2.length c0_2] 28 (0, 0)) (by (with_reducible repeat (first | refine zI ?_ _ | refine zJ ?_ | refine zH ?_ _)); exact BK101.out)) : gb102 ≠ gb101)); clear BK101; clear HB; have BK101 := n0_; have HB := n1_; have BK102 := n2_; have GW102 := n3_; have GE102 := n4_; have NB101_102 := n5_; have NB102_101 := n6_; clear n0_ n1_ n2_ n3_ n4_ n5_ n6_; clear hb hbox hg; have hnb9 := NB101_102.out; have hnc9 := NB102_101.out; have hcz10_0 : w8.cell? ⟨gb101, 0, none⟩ = some (.int .i64 a0_0) := (zK BK101.out 0).trans rfl; have hcz10_1 : w8.cell? ⟨gb101, 1, none⟩ = some (.int .i64 a0_1) := (zK BK101.out 1).trans rfl; have hcz10_2 : w8.cell? ⟨gb101, 2, none⟩ = some (.slice A0_2 l0_2.length c0_2) := (zK BK101.out 2).trans rfl; have hfz10_0 := zL BK101.out 0; have hfz10_1 := zL BK101.out 1; have hfz10_2 := zL BK101.out 2; have hcz11_0 : w8.cell? ⟨gb102, 0, none⟩ = some (.int .i64 a1_0) := (zK BK102.out 0).trans rfl; have hcz11_1 : w8.cell? ⟨gb102, 1, none⟩ = some (.int .i64 a1_1) := (zK BK102.out 1).trans rfl; have hcz11_2 : w8.cell? ⟨gb102, 2, none⟩ = some (.slice A1_2 l1_2.length c1_2) := (zK BK102.out 2).trans rfl; have hfz11_0 := zL BK102.out 0; have hfz11_1 := zL BK102.out 1; have hfz11_2 := zL BK102.out 2) | ((with_reducible refine gate_callee (f := 57) rfl ?_); refine goesL_ (some 19) rfl rfl Try.func57 (by kernel_rfl) rfl #[.slice A0_2 l0_2.length c0_2, .slice A1_2 l1_2.length c1_2] rfl (by (try simp only [List.map_toArray, List.map_cons, List.map_nil]); first | done | rfl | (simp only [List.length_drop, List.length_take]; rfl)) ?_; (with_reducible refine (laws_eqRuleS.calls k _ _ l0_2 _ _ l1_2 true _ ?side1 ?side2 ?side3 ?side4 A5.out).mono ?_); (case side1 => repeat (first | exact (zS HR0_2.out HB.out) | refine Kd.C_alloc ?_ _ | refine Kd.C_drewN ?_ _ | refine Kd.C_drew ?_)); (case side2 => exact HC0_2.out); (case side3 => repeat (first | exact (zS HR1_2.out HB.out) | refine Kd.C_alloc ?_ _ | refine Kd.C_drewN ?_ _ | refine Kd.C_drew ?_)); (case side4 => exact HC1_2.out); rintro e w12 ⟨rfl, hb⟩; refine ⟨_, rfl, ?_⟩; have n0_ := zA (zM (g := gb101) (o := .cells #[.int .i64 a0_0, .int .i64 a0_1, .slice A0_2 l0_2.length c0_2] 28 (0, 0)) (by (with_reducible repeat (first | refine zI ?_ _ | refine zJ ?_ | refine zH ?_ _)); exact BK101.out) hb); have n1_ := zA (zM (g := gb102) (o := .cells #[.int .i64 a1_0, .int .i64 a1_1, .slice A1_2 l1_2.length c1_2] 28 (0, 0)) (by (with_reducible repeat (first | refine zI ?_ _ | refine zJ ?_ | refine zH ?_ _)); exact BK102.out) hb); have n2_ := zA (zG (by repeat (first | (with_reducible first | exact HB.out | apply zB | apply zC | apply zD | refine zE ?_ GE101.out | refine zE ?_ GE102.out) | exact HB.out)) hb); clear BK101; clear BK102; clear HB; have BK101 := n0_; have BK102 := n1_; have HB := n2_; clear n0_ n1_ n2_; (try clear hb); (try clear hb2); (try clear hk); (try clear hi))); go_ret; exact ⟨by first | rfl | (simp [errW_none, errW_some] <;> rfl) | (simp [*, errW_none, errW_some] <;> rfl), by repeat (first | (with_reducible first | exact HB.out | apply zB | apply zC | apply zD | refine zE ?_ GE101.out | refine zE ?_ GE102.out) | exact HB.out)⟩
     · replace c6 := Bool.eq_false_iff.mpr c6; subst c6; have H1 : (some false) = some r := by rw [if_neg (show ¬ (false = true) by decide)] at H; exact H
       clear H; have H := H1; clear H1; obtain rfl := Option.some.inj H; go_enter Try.func19, Try.ntmps19; go_wp2_with (first | ((with_reducible refine gate_dst (N := 2) rfl ?_); refine box_event ?hg (N := 2) ?hd (cs := #[.int .i64 a0_0, .int .i64 a0_1, .slice A0_2 l0_2.length c0_2]) (t := 28) ?hr ?_; (case hd => rfl); (case hg => rfl); (case hr => first | (go_simp; done) | (go_simp; rfl)); intro gb101 hg w13 hbox hb; have n0_ := zA (zG (by repeat (first | (with_reducible first | exact HB.out | apply zB | apply zC | apply zD) | exact HB.out)) hb); have n1_ := zA (hbox); have n2_ := zA ((by rw [hg]; exact (zF (by repeat (first | (with_reducible first | exact HB.out | apply zB | apply zC | apply zD) | exact HB.out))) : w.heap.size ≤ gb101)); have n3_ := zA ((by rw [hg]; exact (zF (by repeat (first | (with_reducible first | exact HB.out | apply zB | apply zC | apply zD) | exact HB.out))) : w.heap.size ≤ gb101)); clear HB; have HB := n0_; have BK101 := n1_; have GW101 := n2_; have GE101 := n3_; clear n0_ n1_ n2_ n3_; clear hb hbox hg) | ((with_reducible refine gate_dst (N := 3) rfl ?_); refine box_event ?hg (N := 3) ?hd (cs := #[.int .i64 a1_0, .int .i64 a1_1, .slice A1_2 l1_2.length c1_2]) (t := 28) ?hr ?_; (case hd => rfl); (case hg => rfl); (case hr => first | (go_simp; done) | (go_simp; rfl)); intro gb102 hg w14 hbox hb; have n0_ := zA (zM (g := gb101) (o := .cells #[.int .i64 a0_0, .int .i64 a0_1, .slice A0_2 l0_2.length c0_2] 28 (0, 0)) (by (with_reducible repeat (first | refine zI ?_ _ | refine zJ ?_ | refine zH ?_ _)); exact BK101.out) hb); have n1_ := zA (zG (by repeat (first | (with_reducible first | exact HB.out | apply zB | apply zC | apply zD | refine zE ?_ GE101.out) | exact HB.out)) hb); have n2_ := zA (hbox); have n3_ := zA ((by rw [hg]; exact (zF (by repeat (first | (with_reducible first | exact HB.out | apply zB | apply zC | apply zD | refine zE ?_ GE101.out) | exact HB.out))) : w.heap.size ≤ gb102)); have n4_ := zA ((by rw [hg]; exact (zF (by repeat (first | (with_reducible first | exact HB.out | apply zB | apply zC | apply zD | refine zE ?_ GE101.out) | exact HB.out))) : w.heap.size ≤ gb102)); have n5_ := zA ((by rw [hg]; exact Nat.ne_of_lt (blk_lt (g := gb101) (o := .cells #[.int .i64 a0_0, .int .i64 a0_1, .slice A0_2 l0_2.length c0_2] 28 (0, 0)) (by (with_reducible repeat (first | refine zI ?_ _ | refine zJ ?_ | refine zH ?_ _)); exact BK101.out)) : gb101 ≠ gb102)); have n6_ := zA ((by rw [hg]; exact Nat.ne_of_gt (blk_lt (g := gb101) (o := .cells #[.int .i64 a0_0, .int .i64 a0_1, .slice A0_2 l0_2.length c0_2] 28 (0, 0)) (by (with_reducible repeat (first | refine zI ?_ _ | refine zJ ?_ | refine zH ?_ _)); exact BK101.out)) : gb102 ≠ gb101)); clear BK101; clear HB; have BK101 := n0_; have HB := n1_; have BK102 := n2_; have GW102 := n3_; have GE102 := n4_; have NB101_102 := n5_; have NB102_101 := n6_; clear n0_ n1_ n2_ n3_ n4_ n5_ n6_; clear hb hbox hg; have hnb15 := NB101_102.out; have hnc15 := NB102_101.out; have hcz16_0 : w14.cell? ⟨gb101, 0, none⟩ = some (.int .i64 a0_0) := (zK BK101.out 0).trans rfl; have hcz16_1 : w14.cell? ⟨gb101, 1, none⟩ = some (.int .i64 a0_1) := (zK BK101.out 1).trans rfl; have hcz16_2 : w14.cell? ⟨gb101, 2, none⟩ = some (.slice A0_2 l0_2.length c0_2) := (zK BK101.out 2).trans rfl; have hfz16_0 := zL BK101.out 0; have hfz16_1 := zL BK101.out 1; have hfz16_2 := zL BK101.out 2; have hcz17_0 : w14.cell? ⟨gb102, 0, none⟩ = some (.int .i64 a1_0) := (zK BK102.out 0).trans rfl; have hcz17_1 : w14.cell? ⟨gb102, 1, none⟩ = some (.int .i64 a1_1) := (zK BK102.out 1).trans rfl; have hcz17_2 : w14.cell? ⟨gb102, 2, none⟩ = some (.slice A1_2 l1_2.length c1_2) := (zK BK102.out 2).trans rfl; have hfz17_0 := zL BK102.out 0; have hfz17_1 := zL BK102.out 1; have hfz17_2 := zL BK102.out 2) | ((with_reducible refine gate_callee (f := 57) rfl ?_); refine goesL_ (some 19) rfl rfl Try.func57 (by kernel_rfl) rfl #[.slice A0_2 l0_2.length c0_2, .slice A1_2 l1_2.length c1_2] rfl (by (try simp only [List.map_toArray, List.map_cons, List.map_nil]); first | done | rfl | (simp only [List.length_drop, List.length_take]; rfl)) ?_; (with_reducible refine (laws_eqRuleS.calls k _ _ l0_2 _ _ l1_2 false _ ?side1 ?side2 ?side3 ?side4 A5.out).mono ?_); (case side1 => repeat (first | exact (zS HR0_2.out HB.out) | refine Kd.C_alloc ?_ _ | refine Kd.C_drewN ?_ _ | refine Kd.C_drew ?_)); (case side2 => exact HC0_2.out); (case side3 => repeat (first | exact (zS HR1_2.out HB.out) | refine Kd.C_alloc ?_ _ | refine Kd.C_drewN ?_ _ | refine Kd.C_drew ?_)); (case side4 => exact HC1_2.out); rintro e w18 ⟨rfl, hb⟩; refine ⟨_, rfl, ?_⟩; have n0_ := zA (zM (g := gb101) (o := .cells #[.int .i64 a0_0, .int .i64 a0_1, .slice A0_2 l0_2.length c0_2] 28 (0, 0)) (by (with_reducible repeat (first | refine zI ?_ _ | refine zJ ?_ | refine zH ?_ _)); exact BK101.out) hb); have n1_ := zA (zM (g := gb102) (o := .cells #[.int .i64 a1_0, .int .i64 a1_1, .slice A1_2 l1_2.length c1_2] 28 (0, 0)) (by (with_reducible repeat (first | refine zI ?_ _ | refine zJ ?_ | refine zH ?_ _)); exact BK102.out) hb); have n2_ := zA (zG (by repeat (first | (with_reducible first | exact HB.out | apply zB | apply zC | apply zD | refine zE ?_ GE101.out | refine zE ?_ GE102.out) | exact HB.out)) hb); clear BK101; clear BK102; clear HB; have BK101 := n0_; have BK102 := n1_; have HB := n2_; clear n0_ n1_ n2_; (try clear hb); (try clear hb2); (try clear hk); (try clear hi))); go_ret; exact ⟨by first | rfl | (simp [errW_none, errW_some] <;> rfl) | (simp [*, errW_none, errW_some] <;> rfl), by repeat (first | (with_reducible first | exact HB.out | apply zB | apply zC | apply zD | refine zE ?_ GE101.out | refine zE ?_ GE102.out) | exact HB.out)⟩
   · rw [if_neg c4] at H; have c4b0 : (a0_1 == a1_1) = false := beq_eq_false_iff_ne.mpr c4; have c4b1 : (a0_1 != a1_1) = true := bne_iff_ne.mpr c4; obtain rfl := Option.some.inj H; go_enter Try.func19, Try.ntmps19; go_wp2_with (first | ((with_reducible refine gate_dst (N := 2) rfl ?_); refine box_event ?hg (N := 2) ?hd (cs := #[.int .i64 a0_0, .int .i64 a0_1, .slice A0_2 l0_2.length c0_2]) (t := 28) ?hr ?_; (case hd => rfl); (case hg => rfl); (case hr => first | (go_simp; done) | (go_simp; rfl)); intro gb101 hg w19 hbox hb; have n0_ := zA (zG (by repeat (first | (with_reducible first | exact HB.out | apply zB | apply zC | apply zD) | exact HB.out)) hb); have n1_ := zA (hbox); have n2_ := zA ((by rw [hg]; exact (zF (by repeat (first | (with_reducible first | exact HB.out | apply zB | apply zC | apply zD) | exact HB.out))) : w.heap.size ≤ gb101)); have n3_ := zA ((by rw [hg]; exact (zF (by repeat (first | (with_reducible first | exact HB.out | apply zB | apply zC | apply zD) | exact HB.out))) : w.heap.size ≤ gb101)); clear HB; have HB := n0_; have BK101 := n1_; have GW101 := n2_; have GE101 := n3_; clear n0_ n1_ n2_ n3_; clear hb hbox hg) | ((with_reducible refine gate_dst (N := 3) rfl ?_); refine box_event ?hg (N := 3) ?hd (cs := #[.int .i64 a1_0, .int .i64 a1_1, .slice A1_2 l1_2.length c1_2]) (t := 28) ?hr ?_; (case hd => rfl); (case hg => rfl); (case hr => first | (go_simp; done) | (go_simp; rfl)); intro gb102 hg w20 hbox hb; have n0_ := zA (zM (g := gb101) (o := .cells #[.int .i64 a0_0, .int .i64 a0_1, .slice A0_2 l0_2.length c0_2] 28 (0, 0)) (by (with_reducible repeat (first | refine zI ?_ _ | refine zJ ?_ | refine zH ?_ _)); exact BK101.out) hb); have n1_ := zA (zG (by repeat (first | (with_reducible first | exact HB.out | apply zB | apply zC | apply zD | refine zE ?_ GE101.out) | exact HB.out)) hb); have n2_ := zA (hbox); have n3_ := zA ((by rw [hg]; exact (zF (by repeat (first | (with_reducible first | exact HB.out | apply zB | apply zC | apply zD | refine zE ?_ GE101.out) | exact HB.out))) : w.heap.size ≤ gb102)); have n4_ := zA ((by rw [hg]; exact (zF (by repeat (first | (with_reducible first | exact HB.out | apply zB | apply zC | apply zD | refine zE ?_ GE101.out) | exact HB.out))) : w.heap.size ≤ gb102)); have n5_ := zA ((by rw [hg]; exact Nat.ne_of_lt (blk_lt (g := gb101) (o := .cells #[.int .i64 a0_0, .int .i64 a0_1, .slice A0_2 l0_2.length c0_2] 28 (0, 0)) (by (with_reducible repeat (first | refine zI ?_ _ | refine zJ ?_ | refine zH ?_ _)); exact BK101.out)) : gb101 ≠ gb102)); have n6_ := zA ((by rw [hg]; exact Nat.ne_of_gt (blk_lt (g := gb101) (o := .cells #[.int .i64 a0_0, .int .i64 a0_1, .slice A0_2 l0_2.length c0_2] 28 (0, 0)) (by (with_reducible repeat (first | refine zI ?_ _ | refine zJ ?_ | refine zH ?_ _)); exact BK101.out)) : gb102 ≠ gb101)); clear BK101; clear HB; have BK101 := n0_; have HB := n1_; have BK102 := n2_; have GW102 := n3_; have GE102 := n4_; have NB101_102 := n5_; have NB102_101 := n6_; clear n0_ n1_ n2_ n3_ n4_ n5_ n6_; clear hb hbox hg; have hnb21 := NB101_102.out; have hnc21 := NB102_101.out; have hcz22_0 : w20.cell? ⟨gb101, 0, none⟩ = some (.int .i64 a0_0) := (zK BK101.out 0).trans rfl; have hcz22_1 : w20.cell? ⟨gb101, 1, none⟩ = some (.int .i64 a0_1) := (zK BK101.out 1).trans rfl; have hcz22_2 : w20.cell? ⟨gb101, 2, none⟩ = some (.slice A0_2 l0_2.length c0_2) := (zK BK101.out 2).trans rfl; have hfz22_0 := zL BK101.out 0; have hfz22_1 := zL BK101.out 1; have hfz22_2 := zL BK101.out 2; have hcz23_0 : w20.cell? ⟨gb102, 0, none⟩ = some (.int .i64 a1_0) := (zK BK102.out 0).trans rfl; have hcz23_1 : w20.cell? ⟨gb102, 1, none⟩ = some (.int .i64 a1_1) := (zK BK102.out 1).trans rfl; have hcz23_2 : w20.cell? ⟨gb102, 2, none⟩ = some (.slice A1_2 l1_2.length c1_2) := (zK BK102.out 2).trans rfl; have hfz23_0 := zL BK102.out 0; have hfz23_1 := zL BK102.out 1; have hfz23_2 := zL BK102.out 2)); go_ret; exact ⟨by first | rfl | (simp [errW_none, errW_some] <;> rfl) | (simp [*, errW_none, errW_some] <;> rfl), by repeat (first | (with_reducible first | exact HB.out | apply zB | apply zC | apply zD | refine zE ?_ GE101.out | refine zE ?_ GE102.out) | exact HB.out)⟩
 · rw [if_neg c3] at H; have c3b0 : (a0_0 == a1_0) = false := beq_eq_false_iff_ne.mpr c3; have c3b1 : (a0_0 != a1_0) = true := bne_iff_ne.mpr c3; obtain rfl := Option.some.inj H; go_enter Try.func19, Try.ntmps19; go_wp2_with (first | ((with_reducible refine gate_dst (N := 2) rfl ?_); refine box_event ?hg (N := 2) ?hd (cs := #[.int .i64 a0_0, .int .i64 a0_1, .slice A0_2 l0_2.length c0_2]) (t := 28) ?hr ?_; (case hd => rfl); (case hg => rfl); (case hr => first | (go_simp; done) | (go_simp; rfl)); intro gb101 hg w24 hbox hb; have n0_ := zA (zG (by repeat (first | (with_reducible first | exact HB.out | apply zB | apply zC | apply zD) | exact HB.out)) hb); have n1_ := zA (hbox); have n2_ := zA ((by rw [hg]; exact (zF (by repeat (first | (with_reducible first | exact HB.out | apply zB | apply zC | apply zD) | exact HB.out))) : w.heap.size ≤ gb101)); have n3_ := zA ((by rw [hg]; exact (zF (by repeat (first | (with_reducible first | exact HB.out | apply zB | apply zC | apply zD) | exact HB.out))) : w.heap.size ≤ gb101)); clear HB; have HB := n0_; have BK101 := n1_; have GW101 := n2_; have GE101 := n3_; clear n0_ n1_ n2_ n3_; clear hb hbox hg) | ((with_reducible refine gate_dst (N := 3) rfl ?_); refine box_event ?hg (N := 3) ?hd (cs := #[.int .i64 a1_0, .int .i64 a1_1, .slice A1_2 l1_2.length c1_2]) (t := 28) ?hr ?_; (case hd => rfl); (case hg => rfl); (case hr => first | (go_simp; done) | (go_simp; rfl)); intro gb102 hg w25 hbox hb; have n0_ := zA (zM (g := gb101) (o := .cells #[.int .i64 a0_0, .int .i64 a0_1, .slice A0_2 l0_2.length c0_2] 28 (0, 0)) (by (with_reducible repeat (first | refine zI ?_ _ | refine zJ ?_ | refine zH ?_ _)); exact BK101.out) hb); have n1_ := zA (zG (by repeat (first | (with_reducible first | exact HB.out | apply zB | apply zC | apply zD | refine zE ?_ GE101.out) | exact HB.out)) hb); have n2_ := zA (hbox); have n3_ := zA ((by rw [hg]; exact (zF (by repeat (first | (with_reducible first | exact HB.out | apply zB | apply zC | apply zD | refine zE ?_ GE101.out) | exact HB.out))) : w.heap.size ≤ gb102)); have n4_ := zA ((by rw [hg]; exact (zF (by repeat (first | (with_reducible first | exact HB.out | apply zB | apply zC | apply zD | refine zE ?_ GE101.out) | exact HB.out))) : w.heap.size ≤ gb102)); have n5_ := zA ((by rw [hg]; exact Nat.ne_of_lt (blk_lt (g := gb101) (o := .cells #[.int .i64 a0_0, .int .i64 a0_1, .slice A0_2 l0_2.length c0_2] 28 (0, 0)) (by (with_reducible repeat (first | refine zI ?_ _ | refine zJ ?_ | refine zH ?_ _)); exact BK101.out)) : gb101 ≠ gb102)); have n6_ := zA ((by rw [hg]; exact Nat.ne_of_gt (blk_lt (g := gb101) (o := .cells #[.int .i64 a0_0, .int .i64 a0_1, .slice A0_2 l0_2.length c0_2] 28 (0, 0)) (by (with_reducible repeat (first | refine zI ?_ _ | refine zJ ?_ | refine zH ?_ _)); exact BK101.out)) : gb102 ≠ gb101)); clear BK101; clear HB; have BK101 := n0_; have HB := n1_; have BK102 := n2_; have GW102 := n3_; have GE102 := n4_; have NB101_102 := n5_; have NB102_101 := n6_; clear n0_ n1_ n2_ n3_ n4_ n5_ n6_; clear hb hbox hg; have hnb26 := NB101_102.out; have hnc26 := NB102_101.out; have hcz27_0 : w25.cell? ⟨gb101, 0, none⟩ = some (.int .i64 a0_0) := (zK BK101.out 0).trans rfl; have hcz27_1 : w25.cell? ⟨gb101, 1, none⟩ = some (.int .i64 a0_1) := (zK BK101.out 1).trans rfl; have hcz27_2 : w25.cell? ⟨gb101, 2, none⟩ = some (.slice A0_2 l0_2.length c0_2) := (zK BK101.out 2).trans rfl; have hfz27_0 := zL BK101.out 0; have hfz27_1 := zL BK101.out 1; have hfz27_2 := zL BK101.out 2; have hcz28_0 : w25.cell? ⟨gb102, 0, none⟩ = some (.int .i64 a1_0) := (zK BK102.out 0).trans rfl; have hcz28_1 : w25.cell? ⟨gb102, 1, none⟩ = some (.int .i64 a1_1) := (zK BK102.out 1).trans rfl; have hcz28_2 : w25.cell? ⟨gb102, 2, none⟩ = some (.slice A1_2 l1_2.length c1_2) := (zK BK102.out 2).trans rfl; have hfz28_0 := zL BK102.out 0; have hfz28_1 := zL BK102.out 1; have hfz28_2 := zL BK102.out 2)); go_ret; exact ⟨by first | rfl | (simp [errW_none, errW_some] <;> rfl) | (simp [*, errW_none, errW_some] <;> rfl), by repeat (first | (with_reducible first | exact HB.out | apply zB | apply zC | apply zD | refine zE ?_ GE101.out | refine zE ?_ GE102.out) | exact HB.out)⟩
end Go.Proofs.Ytekoclhnfhbmeaa.P
namespace Go.Proofs.Ytekoclhnfhbmeaa.P
open Go.RowKit Go.Proofs.YtekoclhnfhbmeaaW.PrintWords
set_option linter.unusedVariables false
set_option linter.unusedSimpArgs false
def smallR (r : S98) : Prop := r.f1.length ≤ 1048576
def smallG (l : List S98) : Prop := l.length ≤ 1048576 ∧ ∀ i, i < l.length → (rd_T98 l i).f1.length ≤ 1048576
theorem szRuleS_loop (l : List S98) (hl : l.length ≤ 9223372036854775807) (hr : ∀ i : Nat, i < l.length → (rd_T98 l i).f1.length ≤ 9223372036854775807) (d : Nat) : ∀ (i : Nat) (a : Int), 0 ≤ a → a ≤ 1048576 → i ≤ l.length → l.length - i = d →
 ∃ t, Ev (fun k => laws_szRuleS.l0 k l a i) t ∧ (0 ≤ t → t ≤ 1048576 ∧ ∀ j, i ≤ j → j < l.length → (rd_T98 l j).f1.length ≤ 1048576) := by
 induction d with
 | zero =>
  intro i a h0 h1 h2 hd; refine ⟨a, ⟨1, fun k hk => ?_⟩, fun _ => ⟨h1, fun j h3 h4 => by omega⟩⟩; obtain ⟨k, rfl⟩ : ∃ m, k = m + 1 := ⟨k - 1, by omega⟩
  simp only [laws_szRuleS.l0]; rw [if_neg (by omega)]
 | succ d ih =>
  intro i a h0 h1 h2 hd; have hi : i < l.length := by omega
  have hz := szIntS_eq (rd_T98 l i).f1 a h1 h0 (hr i hi); by_cases hs : a - ((rd_T98 l i).f1.length : Int) < 0
  · rw [if_pos hs] at hz; refine ⟨-1, ⟨1, fun k hk => ?_⟩, fun h => by omega⟩; (try dsimp only); obtain ⟨k, rfl⟩ : ∃ m, k = m + 1 := ⟨k - 1, by omega⟩
    simp only [laws_szRuleS.l0]; rw [if_pos (by omega), if_pos (by omega)]; unfold laws_szRule.f; rw [hz]; rfl
  · rw [if_neg hs] at hz; obtain ⟨t, ⟨K, ht⟩, hsm⟩ := ih (i + 1) (a - (rd_T98 l i).f1.length) (by omega) (by omega) (by omega) (by omega); (try dsimp only at ht); refine ⟨t, ⟨K + 1, fun k hk => ?_⟩, fun h => ⟨(hsm h).1, fun j h3 h4 => ?_⟩⟩
    · obtain ⟨k, rfl⟩ : ∃ m, k = m + 1 := ⟨k - 1, by omega⟩
      simp only [laws_szRuleS.l0]; rw [if_pos (by omega), if_pos (by omega)]; unfold laws_szRule.f; rw [hz]; simp only [Option.bind_some]; rw [if_neg hs]; simp only [Option.bind_some]; rw [if_neg hs, w64 (by omega) (by omega)]; exact ht k (by omega)
    · by_cases e : j = i
      · subst e; omega
      · exact (hsm h).2 j (by omega) h4
def conv (r : S98) : S87 := ⟨r.f0, r.f1⟩
def convs (l : List S98) : List S87 := l.map conv
theorem convs_len (l : List S98) : (convs l).length = l.length := by simp [convs]
theorem toRuleS_loop (l : List S98) (hs : smallG l) (d : Nat) : ∀ (i : Nat), i ≤ l.length → l.length - i = d →
 Ev (fun k => laws_toRuleS.l0 k l (convs (l.take i) ++ List.replicate d z87) i) (convs l) := by
 induction d with
 | zero =>
  intro i h1 hd; refine ⟨1, fun k hk => ?_⟩; (try dsimp only); obtain ⟨k, rfl⟩ : ∃ m, k = m + 1 := ⟨k - 1, by omega⟩
  simp only [laws_toRuleS.l0]; rw [if_neg (by omega)]; rw [List.take_of_length_le (by omega)]; simp
 | succ d ih =>
  intro i h1 hd; have hb := hs.1; obtain ⟨K1, ht⟩ := toIntS_ev _ (hs.2 i (by omega)); (try dsimp only at ht); obtain ⟨K2, hi⟩ := ih (i + 1) (by omega) (by omega); (try dsimp only at hi); refine ⟨K1 + K2 + 1, fun k hk => ?_⟩; (try dsimp only); obtain ⟨k, rfl⟩ : ∃ m, k = m + 1 := ⟨k - 1, by omega⟩
  simp only [laws_toRuleS.l0]; rw [if_pos (by omega), if_pos (by omega)]; unfold laws_toRule.f; rw [ht k (by omega)]; simp only [Option.bind_some]; rw [if_pos (by simp [convs]; omega)]; have e1 : wrap64 ((i : Int) + 1) = ((i + 1 : Nat) : Int) := by unfold wrap64; omega
  have e2 : (convs (l.take i) ++ List.replicate (d + 1) z87).set (i : Int).toNat ⟨(rd_T98 l i).f0, (rd_T98 l i).f1⟩ = convs (l.take (i + 1)) ++ List.replicate d z87 := by
   rw [rep_succ, Int.toNat_natCast, set_mid _ _ _ _ _ (by simp [convs]; omega), take_getD l i z98 (by omega)]; simp [convs, conv, rd_T98]
  rw [e1, e2]; exact hi k (by omega)
theorem toGrammar_ev (a0 a1 : Int) (l : List S98) (hs : smallG l) : Ev (fun k => laws_toGrammar.f k a0 a1 l) (a0, a1, convs l) := by
 obtain ⟨K, h⟩ := toRuleS_loop l hs l.length 0 (by omega) (by omega); (try dsimp only at h); have hb := hs.1; refine ⟨K, fun k hk => ?_⟩; (try dsimp only); unfold laws_toGrammar.f laws_toRuleS.f; rw [if_pos (by omega), if_pos (by omega), Int.toNat_natCast]; have := h k hk; simp only [List.take_zero] at this; rw [show (List.replicate l.length z87) = convs [] ++ List.replicate l.length z87 from rfl, show (0 : Int) = ((0 : Nat) : Int) from rfl, this]; rfl
def smallI (l : List S87) : Prop := l.length ≤ 1048576 ∧ ∀ i : Nat, i < l.length → (rd_T87 l i).f1.length ≤ 1048576
theorem smallI_convs {l : List S98} (h : smallG l) : smallI (convs l) := by
 refine ⟨by rw [convs_len]; exact h.1, fun i hi => ?_⟩; rw [convs_len] at hi; have := h.2 i hi; have e : (rd_T87 (convs l) i) = conv (rd_T98 l i) := by
  unfold rd_T87 rd_T98 convs; rw [List.getD_eq_getElem?_getD, List.getD_eq_getElem?_getD, Int.toNat_natCast, List.getElem?_map, List.getElem?_eq_getElem hi]; rfl
 rw [e]; exact this
theorem eqRuleS_loop (l : List S87) (hs : smallI l) (d : Nat) : ∀ (i : Nat), i ≤ l.length → l.length - i = d → Ev (fun k => laws_eqRuleS.l0 k l l i) true := by
 induction d with
 | zero =>
  intro i h1 hd; refine ⟨1, fun k hk => ?_⟩; (try dsimp only); obtain ⟨k, rfl⟩ : ∃ m, k = m + 1 := ⟨k - 1, by omega⟩
  simp only [laws_eqRuleS.l0]; rw [if_neg (by omega)]
 | succ d ih =>
  intro i h1 hd; have hb := hs.1; have hbi := hs.2 i (by omega); obtain ⟨K1, ht⟩ := eqIntS_ev (rd_T87 l i).f1 (by omega); (try dsimp only at ht); obtain ⟨K2, hi⟩ := ih (i + 1) (by omega) (by omega); (try dsimp only at hi); refine ⟨K1 + K2 + 1, fun k hk => ?_⟩; (try dsimp only); obtain ⟨k, rfl⟩ : ∃ m, k = m + 1 := ⟨k - 1, by omega⟩
  simp only [laws_eqRuleS.l0]; rw [if_pos (by omega), if_pos (by omega), if_pos (by omega)]; unfold laws_eqRule.f; rw [if_pos rfl, ht k (by omega)]; simp only [Option.bind_some, if_true]; have e1 : wrap64 ((i : Int) + 1) = ((i + 1 : Nat) : Int) := by unfold wrap64; omega
  rw [e1]; exact hi k (by omega)
theorem eqRuleS_ev (l : List S87) (hs : smallI l) : Ev (fun k => laws_eqRuleS.f k l l) true := by
 obtain ⟨K, h⟩ := eqRuleS_loop l hs l.length 0 (by omega) (by omega); (try dsimp only at h); refine ⟨K, fun k hk => ?_⟩; (try dsimp only); unfold laws_eqRuleS.f; rw [if_pos rfl]; exact h k hk
theorem eqGrammar_ev (a0 a1 : Int) (l : List S87) (hs : smallI l) : Ev (fun k => laws_eqGrammar.f k a0 a1 l a0 a1 l) true := by
 obtain ⟨K, h⟩ := eqRuleS_ev l hs; (try dsimp only at h); refine ⟨K, fun k hk => ?_⟩; (try dsimp only); unfold laws_eqGrammar.f; rw [if_pos rfl, if_pos rfl, h k hk]; rfl
theorem reads_small {w : World} {A : Option Addr} {l : List S98} (h : Kd.C k98 w A l.length l) : l.length ≤ 9223372036854775807 ∧ ∀ i : Nat, i < l.length → (rd_T98 l i).f1.length ≤ 9223372036854775807 := by
 refine ⟨h.2.1, fun i hi => ?_⟩; obtain ⟨ad, A1, c1, _, _, _, _, hC⟩ := at_T98 h (i : Int) (by omega) (by omega); exact hC.2.1
end Go.Proofs.Ytekoclhnfhbmeaa.P
namespace Go.Proofs.Ytekoclhnfhbmeaa.P
open Go.RowKit Go.Proofs.YtekoclhnfhbmeaaW.PrintWords Go.Proofs.YtekoclhnfhbmeaaW.PrintLast Go.Proofs.YtekoclhnfhbmeaaW.PrintMore
attribute [local go_sem] max2_int min2_int max_two min_two max_three min_three max_four min_four
set_option linter.unusedVariables false
set_option linter.unusedSimpArgs false
def laws_markIntS.l0 : Nat → List Int → Int → Int → Option (Int × List Int)
 | 0, _, _, _ => none
 | k + 1, x0, x1, x5 => if x5 < (x0.length : Int) then (if 0 ≤ x5 then (laws_markIntS.l0 k (x0.set (x5 : Int).toNat x1) (wrap64 (x1 + 1)) (wrap64 (x5 + 1))) else (none)) else (some (x1, x0))
def laws_markIntS.f (k : Nat) (l0 : List Int) (a1 : Int) : Option (Int × List Int) := laws_markIntS.l0 k l0 a1 0
set_option maxHeartbeats 8000000 in
set_option maxRecDepth 100000 in
theorem laws_markIntS.calls (k : Nat) (P0_ : Nat → Prop) (u9000_ : Value) (l0 : List Int) (a1 : Int) (r1 : Int) (r2 : List Int) (w0 w : World) (hB : Below w0.heap.size w0 w) (ho0 : Kd.R (Kd.int .i64) 3 w w0.heap.size P0_ u9000_ l0) (h : laws_markIntS.f k l0 a1 = some (r1, r2)) :
 Calls Try.prog 35 #[u9000_, .int .i64 a1] w fun e w' => e = .returned (.int .i64 r1) ∧ Kd.R (Kd.int .i64) 3 w' w0.heap.size (fun k_ => (P0_ k_ ∨ w.heap.size ≤ k_)) u9000_ r2 ∧ Below w0.heap.size w0 w' ∧ Kept w w' (fun k_ => P0_ k_) := by
 have HO0 := zA (show Kd.R (Kd.int .i64) 3 w w0.heap.size (fun k_ => (P0_ k_ ∨ w.heap.size ≤ k_)) u9000_ l0 from Kd.R_mono ho0 (fun k_ hk => (.inl hk))); have HK := zA (Kept.refl w (fun k_ => P0_ k_)); have HW0 := zA hB.size; have HB := zA hB; clear hB; have H : (laws_markIntS.l0 k l0 a1 0) = some (r1, r2) := h; clear h; have H' := zA H; clear H; go_enter Try.func35, Try.ntmps35; go_wp2; go_loopg [1, 5] k (fun kq v1 v5 w' => ∃ (x0_1 : List Int) (x1_1 : Int) (x5_1 : Int), v1 = .int .i64 x1_1 ∧ v5 = .int .i64 x5_1 ∧ Aside0 (laws_markIntS.l0 kq x0_1 x1_1 x5_1 = some (r1, r2)) ∧ Aside0 (kq ≤ k) ∧ Aside0 (Kd.R (Kd.int .i64) 3 w' w0.heap.size (fun k_ => (P0_ k_ ∨ w.heap.size ≤ k_)) u9000_ x0_1) ∧ Aside0 (Kept w w' (fun k_ => P0_ k_)) ∧ Aside0 (Below w0.heap.size w0 w'))
 case atStart => exact ⟨(l0), (a1), (0), (by first | rfl | (simp; done) | (simp [*]; done)), (by first | rfl | (simp; done) | (simp [*]; done)), H', ⟨Nat.le_refl _⟩, ⟨by (with_reducible repeat (first | apply zT | apply zU | apply zV)); exact HO0.out⟩, ⟨by repeat (first | (with_reducible first | exact HK.out | apply Kept.alloc | apply Kept.drewN | apply Kept.drew) | exact HK.out)⟩, ⟨by repeat (first | (with_reducible first | exact HB.out | apply zB | apply zC | apply zD) | exact HB.out)⟩⟩
 case round =>
  clear H'; (try clear p2); obtain ⟨x0_1, x1_1, x5_1, rfl, rfl, HA, HK1, HO_0, HK, HB⟩ := hrel; cases gk with
  | zero => exact absurd HA.out (by simp [laws_markIntS.l0])
  | succ k1 =>
   have H := HA.out; clear HA; simp only [laws_markIntS.l0] at H; by_cases c3 : x5_1 < (x0_1.length : Int)
   · rw [if_pos c3] at H; have c3b0 : decide (x5_1 < (x0_1.length : Int)) = true := decide_eq_true c3; clear c3; by_cases c4 : 0 ≤ x5_1
     · rw [if_pos c4] at H; have c4b0 : decide (0 ≤ x5_1) = true := decide_eq_true c4; clear c4; obtain ⟨y101, hy101⟩ : ∃ y_ : List Int, y_ = (x0_1.set (x5_1 : Int).toNat x1_1) := ⟨_, rfl⟩
       replace H : (laws_markIntS.l0 k1 y101 (wrap64 (x1_1 + 1)) (wrap64 (x5_1 + 1))) = some (r1, r2) := by first | (rw [hy101]; with_reducible exact H) | (have H2_ := (Option.bind_some _ _).symm.trans H; rw [hy101]; with_reducible exact H2_) | (have H2_ := (Option.bind_some _ _).symm.trans H; with_reducible exact H2_) | with_reducible exact H | (rw [hy101]; exact H) | exact H
       have Ny101 := zA hy101; clear hy101; have H' := zA H; clear H; obtain ⟨Ao6, co6, eo6⟩ := Kd.R_slice HO_0.out; subst eo6; have p5 : 0 ≤ (x5_1 : Int) := of_decide_eq_true (by assumption); have q5 : (x5_1 : Int) < ((x0_1.length : Int) : Int) := of_decide_eq_true (by assumption); obtain ⟨go5, co5, eo5, gb5, gl5, cl5, HG5⟩ := Kd.R_form HO_0.out (by omega); (first | cases eo5 | (injection eo5 with ea_ en_ ec_; (first | subst ea_ | (injection ea_ with ea_; subst ea_)); subst ec_; clear en_)); have GB5 := zA gb5; have GG5 := zA HG5; clear gb5 gl5 HG5; have HMgo5 := zA (show (P0_ go5 ∨ w.heap.size ≤ go5) from (HO_0.out.1 _ rfl)); obtain ⟨hx5_0, hf5_0⟩ := Kd.R_celln 0 HO_0.out (x5_1 : Int) p5 q5; replace p5 := eq_true p5; replace q5 := eq_true q5; have HP7 := Kd.R_putg HO_0.out (x5_1 : Int) x1_1; go_wp2_with (first | ((with_reducible refine gate_store (t := 3) (p := 15) rfl ?_); refine store_event (t := 3) (p := 15) (v := ?vo_w8) (w1 := (wr.setCell ⟨go5, (x5_1 : Int).toNat, none⟩ (.int .i64 x1_1))) ?hg ?ho ?hn ?hr ?_; (case ho => rfl); (case hg => rfl); (case hn => rfl); (case hr => first | (go_simp; done) | (go_simp; rfl)); intro w8 hw; have hg : wr.grownBy w8 (some go5) := (by rw [hw]; exact HP7.2); have hp_ : Kd.R (Kd.int .i64) 3 w8 w0.heap.size (fun k_ => (P0_ k_ ∨ w.heap.size ≤ k_)) (.slice (some ⟨go5, 0, none⟩) x0_1.length co6) y101 := (by rw [hw, Ny101.out]; exact HP7.1); clear HP7; have n0_ := zA (hp_); have n1_ := zA ((by rw [hw]; exact zE (HB.out) GB5.out : Below w0.heap.size w0 w8)); have n2_ := zA (Kept.of_grown (S := (fun k_ => P0_ k_)) hg (by repeat (first | (with_reducible first | exact HK.out | apply Kept.alloc | apply Kept.drewN | apply Kept.drew) | exact HK.out)) (fun k_ e_ => (HO_0.out.1 k_ e_))); clear HO_0; clear HB; clear HK; have HO_0 := n0_; have HB := n1_; have HK := n2_; clear n0_ n1_ n2_; clear hg hw hp_))
       go_roundg k1
       case measure => have := HK1.out; omega
       case rel => exact ⟨(y101), (wrap64 (x1_1 + 1)), (wrap64 (x5_1 + 1)), (by first | rfl | (simp; done) | (simp [*]; done)), (by first | rfl | (simp; done) | (simp [*]; done)), H', ⟨by have := HK1.out; omega⟩, ⟨by (with_reducible repeat (first | apply zT | apply zU | apply zV)); exact HO_0.out⟩, ⟨by repeat (first | (with_reducible first | exact HK.out | apply Kept.alloc | apply Kept.drewN | apply Kept.drew) | exact HK.out)⟩, ⟨by repeat (first | (with_reducible first | exact HB.out | apply zB | apply zC | apply zD) | exact HB.out)⟩⟩
     · rw [if_neg c4] at H; exact absurd H (by simp)
   · rw [if_neg c3] at H; have c3b0 : decide (x5_1 < (x0_1.length : Int)) = false := decide_eq_false c3; clear c3; simp only [Option.some.injEq, Prod.mk.injEq] at H; obtain ⟨rfl, rfl⟩ := H; obtain ⟨Ao9, co9, eo9⟩ := Kd.R_slice HO_0.out; subst eo9; go_wp2; go_ret; exact ⟨by first | rfl | (simp [errW_none, errW_some] <;> rfl) | (simp [*, errW_none, errW_some] <;> rfl), by (with_reducible repeat (first | apply zT | apply zU | apply zV)); exact HO_0.out, by repeat (first | (with_reducible first | exact HB.out | apply zB | apply zC | apply zD) | exact HB.out), by repeat (first | (with_reducible first | exact HK.out | apply Kept.alloc | apply Kept.drewN | apply Kept.drew) | exact HK.out)⟩
def laws_heldIntS.l0 : Nat → List Int → Int → Int → Option (Int)
 | 0, _, _, _ => none
 | k + 1, x0, x1, x5 => if x5 < (x0.length : Int) then (if 0 ≤ x5 then (if (rd x0 x5) = x1 then (laws_heldIntS.l0 k x0 (wrap64 (x1 + 1)) (wrap64 (x5 + 1))) else (some (-1))) else (none)) else (some x1)
def laws_heldIntS.f (k : Nat) (l0 : List Int) (a1 : Int) : Option (Int) := laws_heldIntS.l0 k l0 a1 0
set_option maxHeartbeats 8000000 in
set_option maxRecDepth 100000 in
theorem laws_heldIntS.calls (k : Nat) (A0 : Option Addr) (c0 : Nat) (l0 : List Int) (a1 : Int) (r : Int) (w : World) (hr0 : Kd.C (Kd.int .i64) w A0 l0.length l0) (hc0 : l0.length ≤ c0) (h : laws_heldIntS.f k l0 a1 = some r) :
 Calls Try.prog 42 #[.slice A0 l0.length c0, .int .i64 a1] w fun e w' => e = .returned (.int .i64 r) ∧ Drawn0 w w' := by
 have HR0 := zA hr0; have HC0 := zA hc0; clear hr0 hc0; have H : (laws_heldIntS.l0 k l0 a1 0) = some r := h; clear h; have H' := zA H; clear H; go_enter Try.func42, Try.ntmps42; go_wp2; go_loopg [1, 5] k (fun kq v1 v5 w' => ∃ (x1_1 : Int) (x5_1 : Int), v1 = .int .i64 x1_1 ∧ v5 = .int .i64 x5_1 ∧ Aside0 (laws_heldIntS.l0 kq l0 x1_1 x5_1 = some r) ∧ Aside0 (kq ≤ k) ∧ Drawn0 w w')
 case atStart => exact ⟨(a1), (0), (by first | rfl | (simp; done) | (simp [*]; done)), (by first | rfl | (simp; done) | (simp [*]; done)), H', ⟨Nat.le_refl _⟩, by repeat (first | exact Drawn0.refl _ | apply Drawn0.step)⟩
 case round =>
  clear H'; (try clear p2); obtain ⟨x1_1, x5_1, rfl, rfl, HA, HK1, ⟨m1, rfl⟩⟩ := hrel; cases gk with
  | zero => exact absurd HA.out (by simp [laws_heldIntS.l0])
  | succ k1 =>
   have H := HA.out; clear HA; simp only [laws_heldIntS.l0] at H; by_cases c3 : x5_1 < (l0.length : Int)
   · rw [if_pos c3] at H; have c3b0 : decide (x5_1 < (l0.length : Int)) = true := decide_eq_true c3; clear c3; by_cases c4 : 0 ≤ x5_1
     · rw [if_pos c4] at H; have c4b0 : decide (0 ≤ x5_1) = true := decide_eq_true c4; clear c4; by_cases c5 : (rd l0 x5_1) = x1_1
       · rw [if_pos c5] at H; have c5b0 : ((rd l0 x5_1) == x1_1) = true := beq_iff_eq.mpr c5; have c5b1 : ((rd l0 x5_1) != x1_1) = false := bne_eq_false_iff_eq.mpr c5; clear c5; have H' := zA H; clear H; have p101 : 0 ≤ (x5_1 : Int) := of_decide_eq_true (by assumption); have q101 : x5_1 < (l0.length : Int) := of_decide_eq_true (by assumption); obtain ⟨ad101, e101, hx101_0⟩ := Kd.at_int HR0.out x5_1 p101 q101; cases e101; replace p101 := eq_true p101; replace q101 := eq_true q101; go_wp2
         go_roundg k1
         case measure => have := HK1.out; omega
         case rel => exact ⟨(wrap64 (x1_1 + 1)), (wrap64 (x5_1 + 1)), (by first | rfl | (simp; done) | (simp [*]; done)), (by first | rfl | (simp; done) | (simp [*]; done)), H', ⟨by have := HK1.out; omega⟩, by repeat (first | exact Drawn0.refl _ | apply Drawn0.step)⟩
       · rw [if_neg c5] at H; have c5b0 : ((rd l0 x5_1) == x1_1) = false := beq_eq_false_iff_ne.mpr c5; have c5b1 : ((rd l0 x5_1) != x1_1) = true := bne_iff_ne.mpr c5; obtain rfl := Option.some.inj H; have p101 : 0 ≤ (x5_1 : Int) := of_decide_eq_true (by assumption); have q101 : x5_1 < (l0.length : Int) := of_decide_eq_true (by assumption); obtain ⟨ad101, e101, hx101_0⟩ := Kd.at_int HR0.out x5_1 p101 q101; cases e101; replace p101 := eq_true p101; replace q101 := eq_true q101; go_wp2; go_ret; exact ⟨by first | rfl | (simp; done) | (simp [*]; done), by repeat (first | exact Drawn0.refl _ | apply Drawn0.step)⟩
     · rw [if_neg c4] at H; exact absurd H (by simp)
   · rw [if_neg c3] at H; have c3b0 : decide (x5_1 < (l0.length : Int)) = false := decide_eq_false c3; clear c3; obtain rfl := Option.some.inj H; go_wp2; go_ret; exact ⟨by first | rfl | (simp; done) | (simp [*]; done), by repeat (first | exact Drawn0.refl _ | apply Drawn0.step)⟩
end Go.Proofs.Ytekoclhnfhbmeaa.P
namespace Go.Proofs.Ytekoclhnfhbmeaa.P
open Go.RowKit Go.Proofs.YtekoclhnfhbmeaaW.PrintWords Go.Proofs.YtekoclhnfhbmeaaW.PrintLast Go.Proofs.YtekoclhnfhbmeaaW.PrintMore
set_option linter.unusedVariables false
set_option linter.unusedSimpArgs false
def ramp (n : Int) : Nat → List Int
 | 0 => []
 | m + 1 => ramp n m ++ [n + m]
theorem ramp_len (n : Int) (m : Nat) : (ramp n m).length = m := by
 induction m with
 | zero => rfl
 | succ m ih => simp [ramp, ih]
theorem ramp_get (n : Int) (m i : Nat) (h : i < m) : (ramp n m).getD i 0 = n + i := by
 induction m with
 | zero => omega
 | succ m ih =>
  simp only [ramp, List.getD_eq_getElem?_getD]; by_cases e : i < m
  · rw [List.getElem?_append_left (by rw [ramp_len]; exact e), ← List.getD_eq_getElem?_getD]; exact ih e
  · obtain rfl : i = m := by omega
    rw [List.getElem?_append_right (by rw [ramp_len]; omega)]; simp [ramp_len]
theorem markIntS_loop (l : List Int) (hl : l.length ≤ 1152921504606846976) (n : Int) (hn : 0 ≤ n) (hn' : n ≤ 1152921504606846976) (d : Nat) : ∀ (k i : Nat), i ≤ l.length → l.length - i = d → d < k →
 laws_markIntS.l0 k (ramp n i ++ l.drop i) (n + i) i = some (n + (l.length : Int), ramp n l.length) := by
 induction d with
 | zero =>
  intro k i h1 hd hk; obtain ⟨k, rfl⟩ : ∃ m, k = m + 1 := ⟨k - 1, by omega⟩
  obtain rfl : i = l.length := by omega
  simp only [laws_markIntS.l0]; rw [if_neg (by simp [ramp_len])]; simp
 | succ d ih =>
  intro k i h1 hd hk; obtain ⟨k, rfl⟩ : ∃ m, k = m + 1 := ⟨k - 1, by omega⟩
  simp only [laws_markIntS.l0]; rw [if_pos (by simp [ramp_len]; omega), if_pos (by omega)]; have e1 : wrap64 ((i : Int) + 1) = ((i + 1 : Nat) : Int) := by unfold wrap64; omega
  have e2 : wrap64 (n + (i : Int) + 1) = n + ((i + 1 : Nat) : Int) := by unfold wrap64; omega
  have e3 : (ramp n i ++ l.drop i).set (i : Int).toNat (n + i) = ramp n (i + 1) ++ l.drop (i + 1) := by
   rw [getD_drop l i 0 (by omega), Int.toNat_natCast, set_mid _ _ _ _ _ (ramp_len n i)]; simp [ramp]
  rw [e1, e2, e3]; exact ih k (i + 1) (by omega) (by omega) (by omega)
theorem markIntS_eq (l : List Int) (hl : l.length ≤ 1152921504606846976) (n : Int) (hn : 0 ≤ n) (hn' : n ≤ 1152921504606846976) (k : Nat) (hk : l.length < k) : laws_markIntS.f k l n = some (n + (l.length : Int), ramp n l.length) := by
 have := markIntS_loop l hl n hn hn' l.length k 0 (by omega) (by omega) hk; unfold laws_markIntS.f; simpa [ramp] using this
theorem heldIntS_loop (m : Nat) (hm : m ≤ 1152921504606846976) (n : Int) (hn : 0 ≤ n) (hn' : n ≤ 1152921504606846976) (d : Nat) : ∀ (k i : Nat), i ≤ m → m - i = d → d < k →
 laws_heldIntS.l0 k (ramp n m) (n + i) i = some (n + (m : Int)) := by
 induction d with
 | zero =>
  intro k i h1 hd hk; obtain ⟨k, rfl⟩ : ∃ m, k = m + 1 := ⟨k - 1, by omega⟩
  obtain rfl : i = m := by omega
  simp only [laws_heldIntS.l0]; rw [if_neg (by simp [ramp_len])]
 | succ d ih =>
  intro k i h1 hd hk; obtain ⟨k, rfl⟩ : ∃ m, k = m + 1 := ⟨k - 1, by omega⟩
  simp only [laws_heldIntS.l0]; rw [if_pos (by simp [ramp_len]; omega), if_pos (by omega), if_pos (by unfold rd; simpa using ramp_get n m i (by omega))]; have e1 : wrap64 ((i : Int) + 1) = ((i + 1 : Nat) : Int) := by unfold wrap64; omega
  have e2 : wrap64 (n + (i : Int) + 1) = n + ((i + 1 : Nat) : Int) := by unfold wrap64; omega
  rw [e1, e2]; exact ih k (i + 1) (by omega) (by omega) (by omega)
theorem heldIntS_eq (m : Nat) (hm : m ≤ 1152921504606846976) (n : Int) (hn : 0 ≤ n) (hn' : n ≤ 1152921504606846976) (k : Nat) (hk : m < k) : laws_heldIntS.f k (ramp n m) n = some (n + (m : Int)) := by
 have := heldIntS_loop m hm n hn hn' m k 0 (by omega) (by omega) hk; unfold laws_heldIntS.f; simpa using this
theorem markIntS_calls (P0_ : Nat → Prop) (u : Value) (l0 : List Int) (a1 : Int) (w0 w : World) (hB : Below w0.heap.size w0 w) (ho0 : Kd.R (Kd.int .i64) 3 w w0.heap.size P0_ u l0) (ha : 0 ≤ a1) (hs : a1 + (l0.length : Int) ≤ 1152921504606846976) :
 Calls Try.prog 35 #[u, .int .i64 a1] w fun e w' => e = .returned (.int .i64 (a1 + (l0.length : Int))) ∧ Kd.R (Kd.int .i64) 3 w' w0.heap.size P0_ u (ramp a1 l0.length) ∧ Below w0.heap.size w0 w' ∧ Kept w w' P0_ := by
 refine (laws_markIntS.calls (l0.length + 1) P0_ u l0 a1 _ _ w0 w hB ho0 (markIntS_eq l0 (by omega) a1 ha (by omega) (l0.length + 1) (by omega))).mono ?_; rintro e w' ⟨he, ho, hb, hk⟩; exact ⟨he, Kd.R_mono (Kd.R_tight rfl ho) (fun q hq => ho0.1 q hq.symm), hb, hk⟩
theorem heldIntS_calls (A : Option Addr) (c : Nat) (l : List Int) (a1 : Int) (w : World) (hr : Kd.C (Kd.int .i64) w A (ramp a1 l.length).length (ramp a1 l.length)) (hc : l.length ≤ c) (ha : 0 ≤ a1) (hs : a1 + (l.length : Int) ≤ 1152921504606846976) :
 Calls Try.prog 42 #[.slice A l.length c, .int .i64 a1] w fun e w' => e = .returned (.int .i64 (a1 + (l.length : Int))) ∧ Below w.heap.size w w' := by
 have H := laws_heldIntS.calls (l.length + 1) A c (ramp a1 l.length) a1 (a1 + (l.length : Int)) w hr (by rw [ramp_len]; exact hc) (heldIntS_eq l.length (by omega) a1 ha (by omega) (l.length + 1) (by omega)); rw [ramp_len] at H; refine H.mono ?_; rintro e w' ⟨he, n, rfl⟩; exact ⟨he, zC (Below.refl _ _) n⟩
def szR : List S87 → Nat
 | [] => 0
 | r :: l => 1 + r.f1.length + szR l
def mkR : List S87 → Int → List S87
 | [], _ => []
 | r :: l, a => ⟨a, ramp (a + 1) r.f1.length⟩ :: mkR l (a + 1 + r.f1.length)
theorem mkR_len (l : List S87) : ∀ a, (mkR l a).length = l.length := by
 induction l with
 | nil => intro a; rfl
 | cons r l ih => intro a; simp [mkR, ih]
theorem szR_append (l m : List S87) : szR (l ++ m) = szR l + szR m := by
 induction l with
 | nil => simp [szR]
 | cons r l ih => simp only [List.cons_append, szR, ih]; omega
theorem mkR_append (l m : List S87) : ∀ a, mkR (l ++ m) a = mkR l a ++ mkR m (a + szR l) := by
 induction l with
 | nil => intro a; simp [szR, mkR]
 | cons r l ih => intro a; simp only [List.cons_append, mkR, szR, ih]; congr 3; omega
theorem szR_take (l : List S87) (i : Nat) : szR (l.take i) ≤ szR l := by
 have := szR_append (l.take i) (l.drop i); rw [List.take_append_drop] at this; omega
theorem szR_len (l : List S87) : l.length ≤ szR l := by
 induction l with
 | nil => simp [szR]
 | cons r l ih => simp only [List.length_cons, szR]; omega
theorem szR_small (l : List S87) (hs : ∀ i : Nat, i < l.length → (rd_T87 l i).f1.length ≤ 1048576) : szR l ≤ l.length * 1048577 := by
 induction l with
 | nil => simp [szR]
 | cons r l ih =>
  have h0 := hs 0 (by simp); have h1 := ih (fun i hi => by
   have := hs (i + 1) (by simp; omega); have e : rd_T87 (r :: l) ((i + 1 : Nat) : Int) = rd_T87 l (i : Int) := by unfold rd_T87; simp
   rw [e] at this; exact this)
  have e0 : (rd_T87 (r :: l) ((0 : Nat) : Int)) = r := by unfold rd_T87; simp
  rw [e0] at h0; simp only [szR, List.length_cons]; omega
theorem szR_bound {l : List S87} (hs : smallI l) : (szR l : Int) ≤ 1152921504606846 := by
 have h1 := szR_small l hs.2; have h2 := hs.1; have : l.length * 1048577 ≤ 1048576 * 1048577 := Nat.mul_le_mul_right _ h2; omega
set_option maxHeartbeats 4000000 in
set_option maxRecDepth 100000 in
theorem markRuleS_calls (P0_ : Nat → Prop) (u : Value) (l0 : List S87) (a1 : Int) (w0 w : World) (hB : Below w0.heap.size w0 w) (ho0 : Kd.S k87 87 w w0.heap.size P0_ u l0)
 (ha : 0 ≤ a1) (hs : a1 + szR l0 ≤ 1152921504606846976) :
 Calls Try.prog 58 #[u, .int .i64 a1] w fun e w' => e = .returned (.int .i64 (a1 + szR l0)) ∧ Kd.S k87 87 w' w0.heap.size P0_ u (mkR l0 a1) ∧ Below w0.heap.size w0 w' ∧ Kept w w' P0_ := by
 have HO := zA ho0; have HB := zA hB; have HW := zA hB.size; have hlen := szR_len l0; have HS := zA hs; clear ho0 hB hs; go_enter Try.func58, Try.ntmps58; go_wp2; go_loopg [1, 5] l0.length (fun gg s1 s5 wr => ∃ kk : Nat, kk ≤ l0.length ∧ l0.length - kk ≤ gg ∧ s5 = .int .i64 kk ∧ s1 = .int .i64 (a1 + szR (l0.take kk)) ∧ Aside0 (Kd.S k87 87 wr w0.heap.size P0_ u (mkR (l0.take kk) a1 ++ l0.drop kk)) ∧ Aside0 (Below w0.heap.size w0 wr) ∧ Aside0 (Kept w wr P0_))
 case atStart => exact ⟨0, Nat.zero_le _, by omega, rfl, by simp [szR], ⟨by simpa [mkR] using HO.out⟩, HB, ⟨Kept.refl _ _⟩⟩
 case round =>
  clear HO HB; obtain ⟨kk, hkk, hg, rfl, rfl, HO, HB, HK⟩ := hrel; have hb1 := szR_take l0 kk; by_cases hlt : kk < l0.length
  · obtain ⟨y, hy⟩ : ∃ y, y = l0.getD kk z87 := ⟨_, rfl⟩
    have ed := getD_drop l0 kk z87 hlt; have et := take_getD l0 kk z87 hlt; rw [← hy] at ed et; have esz : szR (l0.take (kk + 1)) = szR (l0.take kk) + (1 + y.f1.length) := by rw [et, szR_append]; simp [szR]
    have hb2 := szR_take l0 (kk + 1); have emk : ∀ z, z = (⟨a1 + szR (l0.take kk), ramp (a1 + szR (l0.take kk) + 1) y.f1.length⟩ : S87) → (mkR (l0.take kk) a1 ++ l0.drop kk).set kk z = mkR (l0.take (kk + 1)) a1 ++ l0.drop (kk + 1) := by
     rintro z rfl; rw [ed, set_mid _ _ _ _ _ (by rw [mkR_len, List.length_take]; omega), et, mkR_append]; simp [mkR]
    have elen : (mkR (l0.take kk) a1 ++ l0.drop kk).length = l0.length := by rw [List.length_append, mkR_len, List.length_take, List.length_drop]; omega
    have eget : (mkR (l0.take kk) a1 ++ l0.drop kk).getD kk z87 = y := by
     rw [ed, List.getD_eq_getElem?_getD, List.getElem?_append_right (by rw [mkR_len, List.length_take]; omega), mkR_len, List.length_take, Nat.min_eq_left hkk, Nat.sub_self]; rfl
    have EM := zA emk; have ES := zA esz; have LN := zA elen; clear emk esz ed et hy; obtain ⟨xs, hxs⟩ : ∃ xs, xs = mkR (l0.take kk) a1 ++ l0.drop kk := ⟨_, rfl⟩
    rw [← hxs] at HO EM LN eget; obtain ⟨go, co, eo, gb, gl, cl, HG⟩ := Kd.S_form HO.out (by rw [LN.out]; omega); subst eo; obtain ⟨oki, c, hcl, hM, hcc, hfr, hoki, hH⟩ := Kd.S_elem HO.out z87 (kk : Int) (by omega) (by rw [LN.out]; omega); rw [Int.toNat_natCast, eget] at hM; obtain ⟨v1, rfl, hR⟩ := k87_openM hM; have hx0 : wr.cell? ⟨go, kk * 2, none⟩ = some (.int .i64 y.f0) := hcc 0 _ rfl; have hx1 : wr.cell? ⟨go, kk * 2 + 1, none⟩ = some v1 := hcc 1 _ rfl; have hf0 : wr.frozen? ⟨go, kk * 2, none⟩ = false := hfr 0; have hP : P0_ go := (Kd.S_R HO.out).1 go rfl; obtain ⟨s, hs⟩ : ∃ s : Int, s = a1 + szR (l0.take kk) := ⟨_, rfl⟩
    rw [← hs] at EM; rw [← hs]; have hs0 : 0 ≤ s := by omega
    have hs1 : s ≤ 1152921504606846976 := by have := HS.out; omega
    have hyl : y.f1.length ≤ 1152921504606846976 := by have := HS.out; have := ES.out; omega
    have hs2 : s + 1 ≤ 1152921504606846976 := by have := HS.out; have := ES.out; omega
    have hsz : xs.length = l0.length := LN.out; have hd : decide (kk < xs.length) = true := decide_eq_true (by omega); have hlt2 : kk < xs.length := by omega
    have hmx : xs.length ≤ 9223372036854775807 := by have := HS.out; omega
    have GB := zA gb; have HH := zA hH; have HR := zA hR; have OI := zA hoki; have PG := zA hP; have L := zA hlt; have SV := zA hs; have EMM := EM; clear hcl hcc hfr hM hH hR hoki hP gb gl HG eget hs hlt hxs EM hsz; go_wp2_with (go_at_call 35; refine (laws_markIntS.calls (y.f1.length + 1) oki v1 y.f1 (s + 1) _ _ w0 _ (zE HB.out GB.out) (Kd.R_far HR.out (fun k hk => (OI.out k hk).2) _) (markIntS_eq y.f1 hyl (s + 1) (by omega) hs2 (y.f1.length + 1) (by omega))).mono ?_; rintro e w' ⟨rfl, ho, hb, hk⟩; have NB := zA hb; have NO := zA ho; have NK := zA hk; clear ho hb hk)
    go_roundg (l0.length - (kk + 1))
    case measure => have := L.out; omega
    case rel =>
     refine ⟨kk + 1, by have := L.out; omega, by omega, by go_num, ?_, ?_, NB, ?_⟩
     · rw [ES.out]; have := SV.out; congr 1; omega
     · have H1 := (Kd.H_seg HH.out (by omega) (by omega) (seg := [.int .i64 s]) (j := 0) (show 0 + 1 ≤ 2 by decide) (by intro q hq; rw [List.mem_singleton.1 hq]; rfl)).1; have H2 := Kd.H_kept H1 NK.out (fun k _ hno hs => hno hs); have hR1 := HR.out.1; have H3 := Kd.H_back H2 (x' := ⟨s, ramp (s + 1) y.f1.length⟩) (k87_mkM _ _ _ (⟨s, ramp (s + 1) y.f1.length⟩ : S87) (Kd.R_mono (Kd.R_tight rfl NO.out) (fun q hq => hR1 q hq.symm))) (fun _ h => h); rw [Int.toNat_natCast, EMM.out _ rfl] at H3; exact ⟨H3⟩
     · exact ⟨(Kept.setCell HK.out (.inl PG.out) _).then_ NK.out (fun k hk => .inl (OI.out k hk).1)⟩
  · have e : kk = l0.length := by omega
    obtain ⟨xs, hxs⟩ : ∃ xs, xs = mkR (l0.take kk) a1 ++ l0.drop kk := ⟨_, rfl⟩
    have hfin : xs = mkR l0 a1 := by rw [hxs, e, List.take_of_length_le (Nat.le_refl _), List.drop_of_length_le (Nat.le_refl _), List.append_nil]
    have hsum : szR (l0.take kk) = szR l0 := by rw [e, List.take_of_length_le (Nat.le_refl _)]
    have hln : xs.length = l0.length := by rw [hfin, mkR_len]
    rw [← hxs] at HO; obtain ⟨A, c, eu⟩ := Kd.R_slice (Kd.S_R HO.out); subst eu; have hd : decide (kk < xs.length) = false := decide_eq_false (by omega); have F := zA hfin; have SU := zA hsum; clear hfin hxs hlt e hln hsum; go_wp2; go_ret; refine ⟨by rw [← SU.out]; rfl, by rw [← F.out]; exact HO.out, HB.out, HK.out⟩
set_option maxHeartbeats 4000000 in
set_option maxRecDepth 100000 in
theorem markGrammar_calls (P0_ : Nat → Prop) (a0 a1 : Int) (u : Value) (l0 : List S87) (k : Int) (w0 w : World) (hB : Below w0.heap.size w0 w) (ho0 : Kd.S k87 87 w w0.heap.size P0_ u l0)
 (ha : 0 ≤ k) (hs : k + szR l0 ≤ 1152921504606846976) :
 Calls Try.prog 20 #[.agg #[.int .i64 a0, .int .i64 a1, u], .int .i64 k] w fun e w' => e = .returned (.int .i64 (k + szR l0)) ∧ Kd.S k87 87 w' w0.heap.size P0_ u (mkR l0 k) ∧ Below w0.heap.size w0 w' ∧ Kept w w' P0_ := by
 obtain ⟨A, c, eu⟩ := Kd.R_slice (Kd.S_R ho0); subst eu; have hu := Try.underlying28; have HO := zA ho0; have HB := zA hB; have HS := zA hs; have HA := zA ha; clear ho0 hB hs ha; go_enter Try.func20, Try.ntmps20; go_wp2_with (go_at_call 58; refine (markRuleS_calls P0_ _ l0 k w0 _ (by repeat (first | exact HB.out | apply zB)) (by repeat (first | exact HO.out | apply Kd.S_alloc)) HA.out HS.out).mono ?_; rintro e w' ⟨rfl, ho, hb, hk⟩; have NB := zA hb; have NO := zA ho; have NK := zA hk; clear ho hb hk); go_ret; exact ⟨rfl, NO.out, NB.out, (Kept.alloc (Kept.refl _ _) _).then_ NK.out (fun q hq => .inl hq)⟩
end Go.Proofs.Ytekoclhnfhbmeaa.P
namespace Go.Proofs.Ytekoclhnfhbmeaa.P
open Go.RowKit Go.Proofs.YtekoclhnfhbmeaaW.PrintWords
set_option linter.unusedVariables false
set_option linter.unusedSimpArgs false
theorem szGrammar_fr (a0 a1 : Int) (l : List S98) (hl : l.length ≤ 9223372036854775807) (hr : ∀ i : Nat, i < l.length → (rd_T98 l i).f1.length ≤ 9223372036854775807) (a : Int) (ha : 0 ≤ a) (ha2 : a ≤ 1048576) :
 ∃ t, Ev (fun k => laws_szGrammar.f k a0 a1 l a) t ∧ t ≤ 1048576 ∧ (0 ≤ t → smallG l) := by
 by_cases hs : a - l.length < 0
 · refine ⟨-1, ⟨0, fun k hk => ?_⟩, by omega, fun h => by omega⟩; dsimp only; unfold laws_szGrammar.f laws_szRuleS.f; rw [w64 (by omega) (by omega), if_pos hs]; rfl
 · obtain ⟨t, ⟨K, ht⟩, hsm⟩ := szRuleS_loop l hl hr l.length 0 (a - l.length) (by omega) (by omega) (by omega) (by omega); (try dsimp only at ht); by_cases h0 : t < 0
   · refine ⟨-1, ⟨K, fun k hk => ?_⟩, by omega, fun h => by omega⟩; dsimp only; unfold laws_szGrammar.f laws_szRuleS.f; rw [w64 (by omega) (by omega), if_neg hs, show ((0 : Int)) = ((0 : Nat) : Int) from rfl, ht k hk]; simp only [Option.bind_some]; rw [if_pos (by omega)]
   · refine ⟨t, ⟨K, fun k hk => ?_⟩, (hsm (by omega)).1, fun h => ⟨by omega, fun j hj => (hsm h).2 j (by omega) hj⟩⟩; dsimp only; unfold laws_szGrammar.f laws_szRuleS.f; rw [w64 (by omega) (by omega), if_neg hs, show ((0 : Int)) = ((0 : Nat) : Int) from rfl, ht k hk]; simp only [Option.bind_some]; rw [if_neg (by omega)]
end Go.Proofs.Ytekoclhnfhbmeaa.P
namespace Go.Proofs.Ytekoclhnfhbmeaa.P
open Go.RowKit Go.Proofs.YtekoclhnfhbmeaaW.PrintWords Go.Proofs.YtekoclhnfhbmeaaW.PrintLast Go.Proofs.YtekoclhnfhbmeaaW.PrintMore
attribute [local go_sem] max2_int min2_int max_two min_two max_three min_three max_four min_four
set_option linter.unusedVariables false
set_option linter.unusedSimpArgs false
def impl_in.f (a0 : Int) (a1 : Int) (a2 : Int) : Option (Bool) := if a0 ≥ a1 then (some (decide (a0 ≤ a2))) else (some false)
set_option maxHeartbeats 8000000 in
set_option maxRecDepth 100000 in
theorem impl_in.calls (a0 : Int) (a1 : Int) (a2 : Int) (r : Bool) (w : World) (h : impl_in.f a0 a1 a2 = some r) :
 Calls Try.prog 65 #[.int .i64 a0, .int .i64 a1, .int .i64 a2] w fun e w' => e = .returned (.bool r) ∧ Drawn0 w w' := by
 have H : (if a0 ≥ a1 then (some (decide (a0 ≤ a2))) else (some false)) = some r := h; clear h; by_cases c4 : a0 ≥ a1
 · rw [if_pos c4] at H; have c4b0 : decide (a1 ≤ a0) = true := decide_eq_true c4; clear c4; obtain rfl := Option.some.inj H; go_enter Try.func65, Try.ntmps65; go_wp2; go_ret; exact ⟨by first | rfl | (simp; done) | (simp [*]; done), by repeat (first | exact Drawn0.refl _ | apply Drawn0.step)⟩
 · rw [if_neg c4] at H; have c4b0 : decide (a1 ≤ a0) = false := decide_eq_false c4; clear c4; obtain rfl := Option.some.inj H; go_enter Try.func65, Try.ntmps65; go_wp2; go_ret; exact ⟨by first | rfl | (simp; done) | (simp [*]; done), by repeat (first | exact Drawn0.refl _ | apply Drawn0.step)⟩
def impl_isSymbol.f (a0 : Int) (a1 : Int) (a2 : Int) : Option (Bool) := (impl_in.f a0 (wrap64 (-a2)) (wrap64 (a1 - 1))).bind fun t101 => (some t101)
set_option maxHeartbeats 8000000 in
set_option maxRecDepth 100000 in
theorem impl_isSymbol.calls (a0 : Int) (a1 : Int) (a2 : Int) (r : Bool) (w : World) (h : impl_isSymbol.f a0 a1 a2 = some r) :
 Calls Try.prog 111 #[.int .i64 a0, .int .i64 a1, .int .i64 a2] w fun e w' => e = .returned (.bool r) ∧ Drawn0 w w' := by
 have H : ((impl_in.f a0 (wrap64 (-a2)) (wrap64 (a1 - 1))).bind fun t101 => (some t101)) = some r := h; clear h; replace H := Option.bind_eq_some_iff.mp H; obtain ⟨t101, A40, H⟩ := H; replace H : (some t101) = some r := H; have A4 := zA A40; clear A40; obtain rfl := Option.some.inj H; go_enter Try.func111, Try.ntmps111; go_wp2_with (first | ((with_reducible refine gate_callee (f := 65) rfl ?_); refine goesL_ (some 12) rfl rfl Try.func65 (by kernel_rfl) rfl #[.int .i64 a0, .int .i64 (wrap64 (-a2)), .int .i64 (wrap64 (a1 - 1))] rfl (by (try simp only [List.map_toArray, List.map_cons, List.map_nil]); first | done | rfl | (simp only [List.length_drop, List.length_take]; rfl)) ?_; (with_reducible refine (impl_in.calls a0 (wrap64 (-a2)) (wrap64 (a1 - 1)) t101 _ A4.out).mono ?_); rintro e w' ⟨rfl, ⟨nd, rfl⟩⟩; refine ⟨_, rfl, ?_⟩)); go_ret; exact ⟨by first | rfl | (simp; done) | (simp [*]; done), by repeat (first | exact Drawn0.refl _ | apply Drawn0.step)⟩
end Go.Proofs.Ytekoclhnfhbmeaa.P
namespace Go.Proofs.Ytekoclhnfhbmeaa.P
open Go.RowKit Go.Proofs.YtekoclhnfhbmeaaW.PrintWords Go.Proofs.YtekoclhnfhbmeaaW.PrintLast Go.Proofs.YtekoclhnfhbmeaaW.PrintMore
set_option linter.unusedVariables false
set_option linter.unusedSimpArgs false
def idxF {α : Type} (p : α → Bool) (l : List α) : Int := if l.any p = true then (l.findIdx p : Int) else -1
theorem idxF_hit {α : Type} (p : α → Bool) (l : List α) (d : α) (i : Nat) (hi : i < l.length) (h : p (l.getD i d) = true) (hb : ∀ j, j < i → p (l.getD j d) = false) : idxF p l = i := by
 have hg : ∀ j (hj : j < l.length), l.getD j d = l[j] := fun j hj => by rw [List.getD_eq_getElem?_getD, List.getElem?_eq_getElem hj]; rfl
 have hany : l.any p = true := List.any_eq_true.mpr ⟨l[i], List.getElem_mem hi, by rw [← hg i hi]; exact h⟩; unfold idxF; rw [if_pos hany]; have : l.findIdx p = i := (List.findIdx_eq hi).mpr ⟨by rw [← hg i hi]; exact h, fun j hj => by rw [← hg j (by omega)]; exact hb j hj⟩; rw [this]
theorem idxF_miss {α : Type} (p : α → Bool) (l : List α) (d : α) (hb : ∀ j, j < l.length → p (l.getD j d) = false) : idxF p l = -1 := by
 unfold idxF; rw [if_neg]; intro h; obtain ⟨x, hx, hp⟩ := List.any_eq_true.mp h; obtain ⟨j, hj, rfl⟩ := List.getElem_of_mem hx; have := hb j hj; rw [List.getD_eq_getElem?_getD, List.getElem?_eq_getElem hj] at this; simp at this; rw [this] at hp; cases hp
theorem idxF_any {α : Type} (p : α → Bool) (l : List α) : decide (0 ≤ idxF p l) = l.any p := by
 unfold idxF; cases h : l.any p <;> simp <;> omega
theorem drawn_below {w w' : World} (h : Drawn0 w w') : Below w.heap.size w w' := by
 obtain ⟨n, rfl⟩ := h; exact zC (Below.refl _ _) n
def PredI (g : Nat) (lb : Array Value) (p : Int → Bool) (w : World) : Prop :=
 ∀ (W : World) (x : Int), Below w.heap.size w W → Calls Try.prog g (#[.int .i64 x] ++ lb) W fun e w' => e = .returned (.bool (p x)) ∧ Below W.heap.size W w'
def PredID (g : Nat) (lb : Array Value) (D : Int → Prop) (p : Int → Bool) (w : World) : Prop :=
 ∀ (W : World) (x : Int), Below w.heap.size w W → D x → Calls Try.prog g (#[.int .i64 x] ++ lb) W fun e w' => e = .returned (.bool (p x)) ∧ Below W.heap.size W w'
set_option maxHeartbeats 2000000 in
set_option maxRecDepth 100000 in
theorem indexFunc_intD (g : Nat) (lb : Array Value) (eg : ∀ args w, (callFunc g args).run Try.prog w = .ok (.enter g args) w) (p : Int → Bool) (A : Option Addr) (c : Nat) (l : List Int) (w : World)
 (hr : Kd.C (Kd.int .i64) w A l.length l) (hc : l.length ≤ c) (D : Int → Prop) (hD : ∀ j : Nat, j < l.length → D (rd l j)) (hp : PredID g lb D p w) :
 Calls Try.prog 78 #[.slice A l.length c, .func (.func g) #[] lb] w fun e w' => e = .returned (.int .i64 (idxF p l)) ∧ Below w.heap.size w w' := by
 have hmax : l.length ≤ 9223372036854775807 := hr.2.1; go_enter Try.func78, Try.ntmps78; go_wp2; go_loopg [5, 8] l.length (fun gg _ s8 wr => ∃ kk : Nat, kk ≤ l.length ∧ l.length - kk ≤ gg ∧ s8 = .int .i64 kk ∧ Aside0 (Below w.heap.size w wr) ∧ Aside0 (∀ j, j < kk → p (l.getD j 0) = false))
 case atStart => exact ⟨0, Nat.zero_le _, by omega, rfl, ⟨Below.refl _ w⟩, ⟨fun j hj => absurd hj (Nat.not_lt_zero _)⟩⟩
 case round =>
  obtain ⟨kk, hkk, hg, rfl, BW, A0⟩ := hrel; by_cases hlt : kk < l.length
  · obtain ⟨ad, e, hx⟩ := Kd.at_int (zS hr BW.out) (kk : Int) (by omega) (by omega); subst e; have hx2 : wr.cell? (ad.add kk) = some (.int .i64 (rd l kk)) := by simpa using hx
    have hcall := hp wr (rd l kk) BW.out (hD kk hlt); have hB := zA (show l.getD kk 0 = rd l kk from rfl); have L := zA hlt; have hd : decide (kk < l.length) = true := decide_eq_true hlt; clear hx hp hr hD; generalize rd l kk = y at hcall hB hx2; cases hq : p y with
    | true =>
     rw [hq] at hcall; have Q := zA hq; clear hq; go_wp2_with fail; refine hcall.mono ?_; rintro e w' ⟨rfl, hb'⟩; clear hcall hd eg hlt; go_wp2; go_ret; refine ⟨?_, zG BW.out hb'⟩; rw [idxF_hit p l 0 kk L.out (by rw [hB.out]; exact Q.out) A0.out]; rfl
    | false =>
     rw [hq] at hcall; have Q := zA hq; clear hq; go_wp2_with fail; refine hcall.mono ?_; rintro e w' ⟨rfl, hb'⟩; clear hcall hd eg; go_wp2
     go_roundg (l.length - (kk + 1))
     case measure => have := L.out; omega
     case rel =>
      refine ⟨kk + 1, by have := L.out; omega, by omega, by go_num, ⟨zG BW.out hb'⟩, ⟨fun j hj => ?_⟩⟩; by_cases ej : j = kk
      · subst ej; rw [hB.out]; exact Q.out
      · exact A0.out j (by omega)
  · have hd : decide (kk < l.length) = false := decide_eq_false hlt; have L := zA (show kk = l.length by omega); clear hp hr hlt hD; go_wp2; go_ret; refine ⟨?_, BW.out⟩; rw [idxF_miss p l 0 (by have := A0.out; rw [L.out] at this; exact this)]; rfl
set_option maxHeartbeats 2000000 in
theorem containsFunc_intD (g : Nat) (lb : Array Value) (eg : ∀ args w, (callFunc g args).run Try.prog w = .ok (.enter g args) w) (p : Int → Bool) (A : Option Addr) (c : Nat) (l : List Int) (w : World)
 (hr : Kd.C (Kd.int .i64) w A l.length l) (hc : l.length ≤ c) (D : Int → Prop) (hD : ∀ j : Nat, j < l.length → D (rd l j)) (hp : PredID g lb D p w) :
 Calls Try.prog 101 #[.slice A l.length c, .func (.func g) #[] lb] w fun e w' => e = .returned (.bool (l.any p)) ∧ Below w.heap.size w w' := by
 have H := indexFunc_intD g lb eg p A c l w hr hc D hD hp; have hz := zA (idxF_any p l); generalize idxF p l = i at H hz; go_enter Try.func101, Try.ntmps101; go_wp2_with (go_at_call 78; refine H.mono ?_; rintro e w' ⟨rfl, hb'⟩); go_ret; exact ⟨by rw [← hz.out]; rfl, hb'⟩
theorem containsFunc_int (g : Nat) (lb : Array Value) (eg : ∀ args w, (callFunc g args).run Try.prog w = .ok (.enter g args) w) (p : Int → Bool) (A : Option Addr) (c : Nat) (l : List Int) (w : World)
 (hr : Kd.C (Kd.int .i64) w A l.length l) (hc : l.length ≤ c) (hp : PredI g lb p w) :
 Calls Try.prog 101 #[.slice A l.length c, .func (.func g) #[] lb] w fun e w' => e = .returned (.bool (l.any p)) ∧ Below w.heap.size w w' :=
 containsFunc_intD g lb eg p A c l w hr hc (fun _ => True) (fun _ _ => trivial) (fun W x hb _ => hp W x hb)
def symB (nons toks x : Int) : Bool := decide (wrap64 (-toks) ≤ x ∧ x ≤ wrap64 (nons - 1))
theorem impl_in_eq (a b c : Int) : impl_in.f a b c = some (decide (b ≤ a ∧ a ≤ c)) := by
 unfold impl_in.f; by_cases h : a ≥ b
 · rw [if_pos h]; congr 2; simp; omega
 · rw [if_neg h]; simp; omega
theorem impl_isSymbol_eq (x nons toks : Int) : impl_isSymbol.f x nons toks = some (symB nons toks x) := by
 unfold impl_isSymbol.f symB; rw [impl_in_eq]; rfl
set_option maxHeartbeats 2000000 in
theorem pred_sym (nons toks : Int) (B C : Nat) (w : World) (hB : B < w.heap.size) (hC : C < w.heap.size) (hcB : w.cell? ⟨B, 0, none⟩ = some (.int .i64 nons)) (hcC : w.cell? ⟨C, 0, none⟩ = some (.int .i64 toks)) :
 PredI 110 #[.pointer (some ⟨B, 0, none⟩), .pointer (some ⟨C, 0, none⟩)] (fun x => !symB nons toks x) w := fun W x hb => by
 have h1 : W.cell? ⟨B, 0, none⟩ = some (.int .i64 nons) := (hb.cell (p := ⟨B, 0, none⟩) hB).trans hcB; have h2 : W.cell? ⟨C, 0, none⟩ = some (.int .i64 toks) := (hb.cell (p := ⟨C, 0, none⟩) hC).trans hcC; have hc := fun w => impl_isSymbol.calls x nons toks _ w (impl_isSymbol_eq x nons toks)
 clear hb hcB hcC; show Calls Try.prog 110 #[.int .i64 x, .pointer (some ⟨B, 0, none⟩), .pointer (some ⟨C, 0, none⟩)] W fun e w' => e = .returned (.bool (!symB nons toks x)) ∧ Below W.heap.size W w'
 generalize symB nons toks x = b at hc ⊢; go_enter Try.func110, Try.ntmps110; go_wp2_with (go_at_call 111; refine (hc _).mono ?_; rintro e w' ⟨rfl, hd⟩); go_ret; exact ⟨rfl, drawn_below hd⟩
def impl_areSymbols.f (l0 : List Int) (a1 a2 : Int) : Option Bool := some (!(l0.any fun x => !symB a1 a2 x))
set_option maxHeartbeats 2000000 in
theorem impl_areSymbols.calls (A0 : Option Addr) (c0 : Nat) (l0 : List Int) (a1 a2 : Int) (r : Bool) (w : World) (hr0 : Kd.C (Kd.int .i64) w A0 l0.length l0) (hc0 : l0.length ≤ c0) (h : impl_areSymbols.f l0 a1 a2 = some r) :
 Calls Try.prog 71 #[.slice A0 l0.length c0, .int .i64 a1, .int .i64 a2] w fun e w' => e = .returned (.bool r) ∧ Below w.heap.size w w' := by
 obtain rfl := Option.some.inj h; clear h; have eg : ∀ args w, (callFunc 110 args).run Try.prog w = .ok (.enter 110 args) w := enters_of Try.func110 (by kernel_rfl) rfl; have H := zA fun (W : World) (B C : Nat) (hW : Below w.heap.size w W) (hB : B < W.heap.size) (hC : C < W.heap.size) (hcB : W.cell? ⟨B, 0, none⟩ = some (.int .i64 a1)) (hcC : W.cell? ⟨C, 0, none⟩ = some (.int .i64 a2)) =>
  containsFunc_int _ #[.pointer (some ⟨B, 0, none⟩), .pointer (some ⟨C, 0, none⟩)] eg (fun x => !symB a1 a2 x) A0 c0 l0 W (zS hr0 hW) hc0 (pred_sym a1 a2 B C W hB hC hcB hcC)
 clear hr0 hc0; generalize (l0.any fun x => !symB a1 a2 x) = b at H ⊢; go_enter Try.func71, Try.ntmps71; go_wp2_with (go_at_call 101; refine (H.out _ _ _ (by repeat (first | exact Below.refl _ _ | apply zB)) (by simp <;> omega) (by simp <;> omega) (by simp) (by simp)).mono ?_; rintro e w' ⟨rfl, hb'⟩); go_ret; exact ⟨rfl, zG (by repeat (first | exact Below.refl _ _ | apply zB)) hb'⟩
end Go.Proofs.Ytekoclhnfhbmeaa.P
namespace Go.Proofs.Ytekoclhnfhbmeaa.P
open Go.RowKit Go.Proofs.YtekoclhnfhbmeaaW.PrintWords Go.Proofs.YtekoclhnfhbmeaaW.PrintLast Go.Proofs.YtekoclhnfhbmeaaW.PrintMore
attribute [local go_sem] max2_int min2_int max_two min_two max_three min_three max_four min_four
set_option linter.unusedVariables false
set_option linter.unusedSimpArgs false
def slices_Equal_int_int.l0 : Nat → List Int → List Int → Int → Int → Option (Bool)
 | 0, _, _, _, _ => none
 | k + 1, x0, x1, x12, x13 => if x13 < x12 then (if 0 ≤ x13 then (if x13 < (x0.length : Int) then (if x13 < (x1.length : Int) then (if (rd x0 x13) = (rd x1 x13) then (slices_Equal_int_int.l0 k x0 x1 x12 (wrap64 (x13 + 1))) else (some false)) else (none)) else (none)) else (none)) else (some true)
def slices_Equal_int_int.f (k : Nat) (l0 : List Int) (l1 : List Int) : Option (Bool) := if (l0.length : Int) = (l1.length : Int) then (slices_Equal_int_int.l0 k l0 l1 (l0.length : Int) 0) else (some false)
set_option maxHeartbeats 8000000 in
set_option maxRecDepth 100000 in
theorem slices_Equal_int_int.calls (k : Nat) (A0 : Option Addr) (c0 : Nat) (l0 : List Int) (A1 : Option Addr) (c1 : Nat) (l1 : List Int) (r : Bool) (w : World) (hr0 : Kd.C (Kd.int .i64) w A0 l0.length l0) (hc0 : l0.length ≤ c0) (hr1 : Kd.C (Kd.int .i64) w A1 l1.length l1) (hc1 : l1.length ≤ c1) (h : slices_Equal_int_int.f k l0 l1 = some r) :
 Calls Try.prog 123 #[.slice A0 l0.length c0, .slice A1 l1.length c1] w fun e w' => e = .returned (.bool r) ∧ Drawn0 w w' := by
 have HR0 := zA hr0; have HC0 := zA hc0; clear hr0 hc0; have HR1 := zA hr1; have HC1 := zA hc1; clear hr1 hc1; have H : (if (l0.length : Int) = (l1.length : Int) then (slices_Equal_int_int.l0 k l0 l1 (l0.length : Int) 0) else (some false)) = some r := h; clear h; by_cases c3 : (l0.length : Int) = (l1.length : Int)
 · rw [if_pos c3] at H; have c3b0 : ((l0.length : Int) == (l1.length : Int)) = true := beq_iff_eq.mpr c3; have c3b1 : ((l0.length : Int) != (l1.length : Int)) = false := bne_eq_false_iff_eq.mpr c3; have c3b2 : (l0.length == l1.length) = true := by first | simpa using c3 | (simp at c3 ⊢; omega)
   clear c3; have H' := zA H; clear H; go_enter Try.func123, Try.ntmps123; go_wp2; (repeat (go_quiet (fail); try go_wp2)); go_loopg [13] k (fun kq v13 w' => ∃ (x13_1 : Int), v13 = .int .i64 x13_1 ∧ Aside0 (slices_Equal_int_int.l0 kq l0 l1 (l0.length : Int) x13_1 = some r) ∧ Aside0 (kq ≤ k) ∧ Drawn0 w w')
   case atStart => exact ⟨(0), (by first | rfl | (simp; done) | (simp [*]; done)), H', ⟨Nat.le_refl _⟩, by repeat (first | exact Drawn0.refl _ | apply Drawn0.step)⟩
   case round =>
    clear H'; (try clear c1); (try clear p2); (try clear c3); (try clear c3b0); (try clear c3b1); (try clear c3b2); obtain ⟨x13_1, rfl, HA, HK1, ⟨m1, rfl⟩⟩ := hrel; cases gk with
    | zero => exact absurd HA.out (by simp [slices_Equal_int_int.l0])
    | succ k1 =>
     have H := HA.out; clear HA; simp only [slices_Equal_int_int.l0] at H; by_cases c4 : x13_1 < (l0.length : Int)
     · rw [if_pos c4] at H; have c4b0 : decide (x13_1 < (l0.length : Int)) = true := decide_eq_true c4; clear c4; by_cases c5 : 0 ≤ x13_1
       · rw [if_pos c5] at H; have c5b0 : decide (0 ≤ x13_1) = true := decide_eq_true c5; clear c5; by_cases c6 : x13_1 < (l0.length : Int)
         · rw [if_pos c6] at H; have c6b0 : decide (x13_1 < (l0.length : Int)) = true := decide_eq_true c6; clear c6; by_cases c7 : x13_1 < (l1.length : Int)
           · rw [if_pos c7] at H; have c7b0 : decide (x13_1 < (l1.length : Int)) = true := decide_eq_true c7; clear c7; by_cases c8 : (rd l0 x13_1) = (rd l1 x13_1)
             · rw [if_pos c8] at H; have c8b0 : ((rd l0 x13_1) == (rd l1 x13_1)) = true := beq_iff_eq.mpr c8; have c8b1 : ((rd l0 x13_1) != (rd l1 x13_1)) = false := bne_eq_false_iff_eq.mpr c8; clear c8; have H' := zA H; clear H; have p101 : 0 ≤ (x13_1 : Int) := of_decide_eq_true (by assumption); have q101 : x13_1 < (l0.length : Int) := of_decide_eq_true (by assumption); obtain ⟨ad101, e101, hx101_0⟩ := Kd.at_int HR0.out x13_1 p101 q101; cases e101; replace p101 := eq_true p101; replace q101 := eq_true q101; have p102 : 0 ≤ (x13_1 : Int) := of_decide_eq_true (by assumption); have q102 : x13_1 < (l1.length : Int) := of_decide_eq_true (by assumption); obtain ⟨ad102, e102, hx102_0⟩ := Kd.at_int HR1.out x13_1 p102 q102; cases e102; replace p102 := eq_true p102; replace q102 := eq_true q102; go_wp2; repeat (go_quiet (fail); try go_wp2)
               go_roundg k1
               case measure => have := HK1.out; omega
               case rel => exact ⟨(wrap64 (x13_1 + 1)), (by first | rfl | (simp; done) | (simp [*]; done)), H', ⟨by have := HK1.out; omega⟩, by repeat (first | exact Drawn0.refl _ | apply Drawn0.step)⟩
             · rw [if_neg c8] at H; have c8b0 : ((rd l0 x13_1) == (rd l1 x13_1)) = false := beq_eq_false_iff_ne.mpr c8; have c8b1 : ((rd l0 x13_1) != (rd l1 x13_1)) = true := bne_iff_ne.mpr c8; obtain rfl := Option.some.inj H; have p101 : 0 ≤ (x13_1 : Int) := of_decide_eq_true (by assumption); have q101 : x13_1 < (l0.length : Int) := of_decide_eq_true (by assumption); obtain ⟨ad101, e101, hx101_0⟩ := Kd.at_int HR0.out x13_1 p101 q101; cases e101; replace p101 := eq_true p101; replace q101 := eq_true q101; have p102 : 0 ≤ (x13_1 : Int) := of_decide_eq_true (by assumption); have q102 : x13_1 < (l1.length : Int) := of_decide_eq_true (by assumption); obtain ⟨ad102, e102, hx102_0⟩ := Kd.at_int HR1.out x13_1 p102 q102; cases e102; replace p102 := eq_true p102; replace q102 := eq_true q102; go_wp2; (repeat (go_quiet (fail); try go_wp2)); go_ret; exact ⟨by first | rfl | (simp; done) | (simp [*]; done), by repeat (first | exact Drawn0.refl _ | apply Drawn0.step)⟩
           · rw [if_neg c7] at H; exact absurd H (by simp)
         · rw [if_neg c6] at H; exact absurd H (by simp)
       · rw [if_neg c5] at H; exact absurd H (by simp)
     · rw [if_neg c4] at H; have c4b0 : decide (x13_1 < (l0.length : Int)) = false := decide_eq_false c4; clear c4; obtain rfl := Option.some.inj H; go_wp2; (repeat (go_quiet (fail); try go_wp2)); go_ret; exact ⟨by first | rfl | (simp; done) | (simp [*]; done), by repeat (first | exact Drawn0.refl _ | apply Drawn0.step)⟩
 · rw [if_neg c3] at H; have c3b0 : ((l0.length : Int) == (l1.length : Int)) = false := beq_eq_false_iff_ne.mpr c3; have c3b1 : ((l0.length : Int) != (l1.length : Int)) = true := bne_iff_ne.mpr c3; have c3b2 : (l0.length == l1.length) = false := by first | simpa using c3 | (simp at c3 ⊢; omega)
   obtain rfl := Option.some.inj H; go_enter Try.func123, Try.ntmps123; go_wp2; (repeat (go_quiet (fail); try go_wp2)); go_ret; exact ⟨by first | rfl | (simp; done) | (simp [*]; done), by repeat (first | exact Drawn0.refl _ | apply Drawn0.step)⟩
def impl_sameRule.f (k : Nat) (a0_0 : Int) (l0_1 : List Int) (a1_0 : Int) (l1_1 : List Int) : Option (Bool) := if a0_0 = a1_0 then ((slices_Equal_int_int.f k l0_1 l1_1).bind fun t103 => (some t103)) else (some false)
set_option maxHeartbeats 8000000 in
set_option maxRecDepth 100000 in
theorem impl_sameRule.calls (k : Nat) (a0_0 : Int) (A0_1 : Option Addr) (c0_1 : Nat) (l0_1 : List Int) (a1_0 : Int) (A1_1 : Option Addr) (c1_1 : Nat) (l1_1 : List Int) (r : Bool) (w : World) (hr0_1 : Kd.C (Kd.int .i64) w A0_1 l0_1.length l0_1) (hc0_1 : l0_1.length ≤ c0_1) (hr1_1 : Kd.C (Kd.int .i64) w A1_1 l1_1.length l1_1) (hc1_1 : l1_1.length ≤ c1_1) (h : impl_sameRule.f k a0_0 l0_1 a1_0 l1_1 = some r) :
 Calls Try.prog 96 #[.agg #[.int .i64 a0_0, .slice A0_1 l0_1.length c0_1], .agg #[.int .i64 a1_0, .slice A1_1 l1_1.length c1_1]] w fun e w' => e = .returned (.bool r) ∧ Below w.heap.size w w' := by
 have hu87 := Try.underlying87; have HR0_1 := zA hr0_1; have HC0_1 := zA hc0_1; clear hr0_1 hc0_1; have HR1_1 := zA hr1_1; have HC1_1 := zA hc1_1; clear hr1_1 hc1_1; have HB := zA (Below.refl w.heap.size w); have H : (if a0_0 = a1_0 then ((slices_Equal_int_int.f k l0_1 l1_1).bind fun t103 => (some t103)) else (some false)) = some r := h; clear h; by_cases c3 : a0_0 = a1_0
 · rw [if_pos c3] at H; have c3b0 : (a0_0 == a1_0) = true := beq_iff_eq.mpr c3; have c3b1 : (a0_0 != a1_0) = false := bne_eq_false_iff_eq.mpr c3; clear c3; replace H := Option.bind_eq_some_iff.mp H; obtain ⟨t103, A40, H⟩ := H; replace H : (some t103) = some r := H; have A4 := zA A40; clear A40; obtain rfl := Option.some.inj H; go_enter Try.func96, Try.ntmps96; go_wp2_with (first | ((with_reducible refine gate_dst (N := 2) rfl ?_); refine box_event ?hg (N := 2) ?hd (cs := #[.int .i64 a0_0, .slice A0_1 l0_1.length c0_1]) (t := 87) ?hr ?_; (case hd => rfl); (case hg => rfl); (case hr => first | (go_simp; done) | (go_simp; rfl)); intro gb101 hg w5 hbox hb; have n0_ := zA (zG (by repeat (first | (with_reducible first | exact HB.out | apply zB | apply zC | apply zD) | exact HB.out)) hb); have n1_ := zA (hbox); have n2_ := zA ((by rw [hg]; exact (zF (by repeat (first | (with_reducible first | exact HB.out | apply zB | apply zC | apply zD) | exact HB.out))) : w.heap.size ≤ gb101)); have n3_ := zA ((by rw [hg]; exact (zF (by repeat (first | (with_reducible first | exact HB.out | apply zB | apply zC | apply zD) | exact HB.out))) : w.heap.size ≤ gb101)); clear HB; have HB := n0_; have BK101 := n1_; have GW101 := n2_; have GE101 := n3_; clear n0_ n1_ n2_ n3_; clear hb hbox hg) | ((with_reducible refine gate_dst (N := 3) rfl ?_); refine box_event ?hg (N := 3) ?hd (cs := #[.int .i64 a1_0, .slice A1_1 l1_1.length c1_1]) (t := 87) ?hr ?_; (case hd => rfl); (case hg => rfl); (case hr => first | (go_simp; done) | (go_simp; rfl)); intro gb102 hg w6 hbox hb; have n0_ := zA (zM (g := gb101) (o := .cells #[.int .i64 a0_0, .slice A0_1 l0_1.length c0_1] 87 (0, 0)) (by (with_reducible repeat (first | refine zI ?_ _ | refine zJ ?_ | refine zH ?_ _)); exact BK101.out) hb); have n1_ := zA (zG (by repeat (first | (with_reducible first | exact HB.out | apply zB | apply zC | apply zD | refine zE ?_ GE101.out) | exact HB.out)) hb); have n2_ := zA (hbox); have n3_ := zA ((by rw [hg]; exact (zF (by repeat (first | (with_reducible first | exact HB.out | apply zB | apply zC | apply zD | refine zE ?_ GE101.out) | exact HB.out))) : w.heap.size ≤ gb102)); have n4_ := zA ((by rw [hg]; exact (zF (by repeat (first | (with_reducible first | exact HB.out | apply zB | apply zC | apply zD | refine zE ?_ GE101.out) | exact HB.out))) : w.heap.size ≤ gb102)); have n5_ := zA ((by rw [hg]; exact Nat.ne_of_lt (blk_lt (g := gb101) (o := .cells #[.int .i64 a0_0, .slice A0_1 l0_1.length c0_1] 87 (0, 0)) (by (with_reducible repeat (first | refine zI ?_ _ | refine zJ ?_ | refine zH ?_ _)); exact BK101.out)) : gb101 ≠ gb102)); have n6_ := zA ((by rw [hg]; exact Nat.ne_of_gt (blk_lt (g := gb101) (o := .cells #[.int .i64 a0_0, .slice A0_1 l0_1.length c0_1] 87 (0, 0)) (by (with_reducible repeat (first | refine zI ?_ _ | refine zJ ?_ | refine zH ?_ _)); exact BK101.out)) : gb102 ≠ gb101)); clear BK101; clear HB; have BK101 := n0_; have HB := n1_; have BK102 := n2_; have GW102 := n3_; have GE102 := n4_; have NB101_102 := n5_; have NB102_101 := n6_; clear n0_ n1_ n2_ n3_ n4_ n5_ n6_; clear hb hbox hg; have hnb7 := NB101_102.out; have hnc7 := NB102_101.out; have hcz8_0 : w6.cell? ⟨gb101, 0, none⟩ = some (.int .i64 a0_0) := (zK BK101.out 0).trans rfl; have hcz8_1 : w6.cell? ⟨gb101, 1, none⟩ = some (.slice A0_1 l0_1.length c0_1) := (zK BK101.out 1).trans rfl; have hfz8_0 := zL BK101.out 0; have hfz8_1 := zL BK101.out 1; have hcz9_0 : w6.cell? ⟨gb102, 0, none⟩ = some (.int .i64 a1_0) := (zK BK102.out 0).trans rfl; have hcz9_1 : w6.cell? ⟨gb102, 1, none⟩ = some (.slice A1_1 l1_1.length c1_1) := (zK BK102.out 1).trans rfl; have hfz9_0 := zL BK102.out 0; have hfz9_1 := zL BK102.out 1) | (go_at_call 123; (with_reducible refine (slices_Equal_int_int.calls k _ _ l0_1 _ _ l1_1 t103 _ ?side1 ?side2 ?side3 ?side4 A4.out).mono ?_); (case side1 => repeat (first | exact (zS HR0_1.out HB.out) | refine Kd.C_alloc ?_ _ | refine Kd.C_drewN ?_ _ | refine Kd.C_drew ?_)); (case side2 => exact HC0_1.out); (case side3 => repeat (first | exact (zS HR1_1.out HB.out) | refine Kd.C_alloc ?_ _ | refine Kd.C_drewN ?_ _ | refine Kd.C_drew ?_)); (case side4 => exact HC1_1.out); rintro e w' ⟨rfl, ⟨nd, rfl⟩⟩)); go_ret; exact ⟨by first | rfl | (simp [errW_none, errW_some] <;> rfl) | (simp [*, errW_none, errW_some] <;> rfl), by repeat (first | (with_reducible first | exact HB.out | apply zB | apply zC | apply zD | refine zE ?_ GE101.out | refine zE ?_ GE102.out) | exact HB.out)⟩
 · rw [if_neg c3] at H; have c3b0 : (a0_0 == a1_0) = false := beq_eq_false_iff_ne.mpr c3; have c3b1 : (a0_0 != a1_0) = true := bne_iff_ne.mpr c3; obtain rfl := Option.some.inj H; go_enter Try.func96, Try.ntmps96; go_wp2_with (first | ((with_reducible refine gate_dst (N := 2) rfl ?_); refine box_event ?hg (N := 2) ?hd (cs := #[.int .i64 a0_0, .slice A0_1 l0_1.length c0_1]) (t := 87) ?hr ?_; (case hd => rfl); (case hg => rfl); (case hr => first | (go_simp; done) | (go_simp; rfl)); intro gb101 hg w10 hbox hb; have n0_ := zA (zG (by repeat (first | (with_reducible first | exact HB.out | apply zB | apply zC | apply zD) | exact HB.out)) hb); have n1_ := zA (hbox); have n2_ := zA ((by rw [hg]; exact (zF (by repeat (first | (with_reducible first | exact HB.out | apply zB | apply zC | apply zD) | exact HB.out))) : w.heap.size ≤ gb101)); have n3_ := zA ((by rw [hg]; exact (zF (by repeat (first | (with_reducible first | exact HB.out | apply zB | apply zC | apply zD) | exact HB.out))) : w.heap.size ≤ gb101)); clear HB; have HB := n0_; have BK101 := n1_; have GW101 := n2_; have GE101 := n3_; clear n0_ n1_ n2_ n3_; clear hb hbox hg) | ((with_reducible refine gate_dst (N := 3) rfl ?_); refine box_event ?hg (N := 3) ?hd (cs := #[.int .i64 a1_0, .slice A1_1 l1_1.length c1_1]) (t := 87) ?hr ?_; (case hd => rfl); (case hg => rfl); (case hr => first | (go_simp; done) | (go_simp; rfl)); intro gb102 hg w11 hbox hb; have n0_ := zA (zM (g := gb101) (o := .cells #[.int .i64 a0_0, .slice A0_1 l0_1.length c0_1] 87 (0, 0)) (by (with_reducible repeat (first | refine zI ?_ _ | refine zJ ?_ | refine zH ?_ _)); exact BK101.out) hb); have n1_ := zA (zG (by repeat (first | (with_reducible first | exact HB.out | apply zB | apply zC | apply zD | refine zE ?_ GE101.out) | exact HB.out)) hb); have n2_ := zA (hbox); have n3_ := zA ((by rw [hg]; exact (zF (by repeat (first | (with_reducible first | exact HB.out | apply zB | apply zC | apply zD | refine zE ?_ GE101.out) | exact HB.out))) : w.heap.size ≤ gb102)); have n4_ := zA ((by rw [hg]; exact (zF (by repeat (first | (with_reducible first | exact HB.out | apply zB | apply zC | apply zD | refine zE ?_ GE101.out) | exact HB.out))) : w.heap.size ≤ gb102)); have n5_ := zA ((by rw [hg]; exact Nat.ne_of_lt (blk_lt (g := gb101) (o := .cells #[.int .i64 a0_0, .slice A0_1 l0_1.length c0_1] 87 (0, 0)) (by (with_reducible repeat (first | refine zI ?_ _ | refine zJ ?_ | refine zH ?_ _)); exact BK101.out)) : gb101 ≠ gb102)); have n6_ := zA ((by rw [hg]; exact Nat.ne_of_gt (blk_lt (g := gb101) (o := .cells #[.int .i64 a0_0, .slice A0_1 l0_1.length c0_1] 87 (0, 0)) (by (with_reducible repeat (first | refine zI ?_ _ | refine zJ ?_ | refine zH ?_ _)); exact BK101.out)) : gb102 ≠ gb101)); clear BK101; clear HB; have BK101 := n0_; have HB := n1_; have BK102 := n2_; have GW102 := n3_; have GE102 := n4_; have NB101_102 := n5_; have NB102_101 := n6_; clear n0_ n1_ n2_ n3_ n4_ n5_ n6_; clear hb hbox hg; have hnb12 := NB101_102.out; have hnc12 := NB102_101.out; have hcz13_0 : w11.cell? ⟨gb101, 0, none⟩ = some (.int .i64 a0_0) := (zK BK101.out 0).trans rfl; have hcz13_1 : w11.cell? ⟨gb101, 1, none⟩ = some (.slice A0_1 l0_1.length c0_1) := (zK BK101.out 1).trans rfl; have hfz13_0 := zL BK101.out 0; have hfz13_1 := zL BK101.out 1; have hcz14_0 : w11.cell? ⟨gb102, 0, none⟩ = some (.int .i64 a1_0) := (zK BK102.out 0).trans rfl; have hcz14_1 : w11.cell? ⟨gb102, 1, none⟩ = some (.slice A1_1 l1_1.length c1_1) := (zK BK102.out 1).trans rfl; have hfz14_0 := zL BK102.out 0; have hfz14_1 := zL BK102.out 1)); go_ret; exact ⟨by first | rfl | (simp [errW_none, errW_some] <;> rfl) | (simp [*, errW_none, errW_some] <;> rfl), by repeat (first | (with_reducible first | exact HB.out | apply zB | apply zC | apply zD | refine zE ?_ GE101.out | refine zE ?_ GE102.out) | exact HB.out)⟩
end Go.Proofs.Ytekoclhnfhbmeaa.P
namespace Go.Proofs.Ytekoclhnfhbmeaa.P
open Go.RowKit Go.Proofs.YtekoclhnfhbmeaaW.PrintWords Go.Proofs.YtekoclhnfhbmeaaW.PrintLast Go.Proofs.YtekoclhnfhbmeaaW.PrintMore
set_option linter.unusedVariables false
set_option linter.unusedSimpArgs false
def PredR (g : Nat) (lb : Array Value) (p : S87 → Bool) (w : World) : Prop :=
 ∀ (W : World) (x : S87) (A : Option Addr) (c : Nat), Below w.heap.size w W → x.f1.length ≤ c → Kd.C (Kd.int .i64) W A x.f1.length x.f1 →
  Calls Try.prog g (#[.agg #[.int .i64 x.f0, .slice A x.f1.length c]] ++ lb) W fun e w' => e = .returned (.bool (p x)) ∧ Below W.heap.size W w'
set_option maxHeartbeats 2000000 in
set_option maxRecDepth 100000 in
theorem indexFunc_rule (g : Nat) (lb : Array Value) (eg : ∀ args w, (callFunc g args).run Try.prog w = .ok (.enter g args) w) (p : S87 → Bool) (A : Option Addr) (c : Nat) (l : List S87) (w : World)
 (hr : Kd.C k87 w A l.length l) (hc : l.length ≤ c) (hp : PredR g lb p w) :
 Calls Try.prog 122 #[.slice A l.length c, .func (.func g) #[] lb] w fun e w' => e = .returned (.int .i64 (idxF p l)) ∧ Below w.heap.size w w' := by
 have hmax : l.length ≤ 9223372036854775807 := hr.2.1; go_enter Try.func122, Try.ntmps122; go_wp2; go_loopg [5, 8] l.length (fun gg _ s8 wr => ∃ kk : Nat, kk ≤ l.length ∧ l.length - kk ≤ gg ∧ s8 = .int .i64 kk ∧ Aside0 (Below w.heap.size w wr) ∧ Aside0 (∀ j, j < kk → p (l.getD j z87) = false))
 case atStart => exact ⟨0, Nat.zero_le _, by omega, rfl, ⟨Below.refl _ w⟩, ⟨fun j hj => absurd hj (Nat.not_lt_zero _)⟩⟩
 case round =>
  obtain ⟨kk, hkk, hg, rfl, BW, A0⟩ := hrel; by_cases hlt : kk < l.length
  · obtain ⟨ad, A1, c1, e, hx0, hx1, hl1, hi1⟩ := at_T87 (zS hr BW.out) (kk : Int) (by omega) (by omega); subst e; have hx2 : wr.cell? (ad.add (kk * 2)) = some (.int .i64 (rd_T87 l kk).f0) := by simpa using hx0
    have hx3 : wr.cell? ⟨(ad.add (kk * 2)).block, (ad.add (kk * 2)).off + 1, none⟩ = some (.slice A1 (rd_T87 l kk).f1.length c1) := by simpa using hx1
    have hcall := hp wr (rd_T87 l kk) A1 c1 BW.out hl1 hi1; have hB := zA (show l.getD kk z87 = rd_T87 l kk from rfl); have L := zA hlt; have hd : decide (kk < l.length) = true := decide_eq_true hlt; clear hx0 hx1 hp hr hl1 hi1; generalize rd_T87 l kk = y at hcall hB hx2 hx3; cases hq : p y with
    | true =>
     rw [hq] at hcall; have Q := zA hq; clear hq; go_wp2_with fail; refine hcall.mono ?_; rintro e w' ⟨rfl, hb'⟩; clear hcall hd eg hlt; go_wp2; go_ret; refine ⟨?_, zG BW.out hb'⟩; rw [idxF_hit p l z87 kk L.out (by rw [hB.out]; exact Q.out) A0.out]; rfl
    | false =>
     rw [hq] at hcall; have Q := zA hq; clear hq; go_wp2_with fail; refine hcall.mono ?_; rintro e w' ⟨rfl, hb'⟩; clear hcall hd eg; go_wp2
     go_roundg (l.length - (kk + 1))
     case measure => have := L.out; omega
     case rel =>
      refine ⟨kk + 1, by have := L.out; omega, by omega, by go_num, ⟨zG BW.out hb'⟩, ⟨fun j hj => ?_⟩⟩; by_cases ej : j = kk
      · subst ej; rw [hB.out]; exact Q.out
      · exact A0.out j (by omega)
  · have hd : decide (kk < l.length) = false := decide_eq_false hlt; have L := zA (show kk = l.length by omega); clear hp hr hlt; go_wp2; go_ret; refine ⟨?_, BW.out⟩; rw [idxF_miss p l z87 (by have := A0.out; rw [L.out] at this; exact this)]; rfl
set_option maxHeartbeats 2000000 in
theorem containsFunc_rule (g : Nat) (lb : Array Value) (eg : ∀ args w, (callFunc g args).run Try.prog w = .ok (.enter g args) w) (p : S87 → Bool) (A : Option Addr) (c : Nat) (l : List S87) (w : World)
 (hr : Kd.C k87 w A l.length l) (hc : l.length ≤ c) (hp : PredR g lb p w) :
 Calls Try.prog 94 #[.slice A l.length c, .func (.func g) #[] lb] w fun e w' => e = .returned (.bool (l.any p)) ∧ Below w.heap.size w w' := by
 have H := indexFunc_rule g lb eg p A c l w hr hc hp; have hz := zA (idxF_any p l); generalize idxF p l = i at H hz; go_enter Try.func94, Try.ntmps94; go_wp2_with (go_at_call 122; refine H.mono ?_; rintro e w' ⟨rfl, hb'⟩); go_ret; exact ⟨by rw [← hz.out]; rfl, hb'⟩
theorem sliceEqual_loop (a b : List Int) (hl : a.length = b.length) (hb : a.length ≤ 9223372036854775807) (d : Nat) : ∀ (k i : Nat), i ≤ a.length → a.length - i = d → d < k →
 slices_Equal_int_int.l0 k a b a.length i = some (decide (a.drop i = b.drop i)) := by
 induction d with
 | zero =>
  intro k i h1 hd hk; obtain ⟨k, rfl⟩ : ∃ m, k = m + 1 := ⟨k - 1, by omega⟩
  simp only [slices_Equal_int_int.l0]; rw [if_neg (by omega)]; rw [List.drop_of_length_le (by omega), List.drop_of_length_le (by omega)]; simp
 | succ d ih =>
  intro k i h1 hd hk; obtain ⟨k, rfl⟩ : ∃ m, k = m + 1 := ⟨k - 1, by omega⟩
  simp only [slices_Equal_int_int.l0]; rw [if_pos (by omega), if_pos (by omega), if_pos (by omega), if_pos (by omega)]; have hw : wrap64 ((i : Int) + 1) = ((i + 1 : Nat) : Int) := by unfold wrap64; omega
  have ea : a.drop i = rd a i :: a.drop (i + 1) := by
   rw [List.drop_eq_getElem_cons (show i < a.length by omega)]; congr 1; unfold rd; rw [List.getD_eq_getElem?_getD, Int.toNat_natCast, List.getElem?_eq_getElem (by omega)]; rfl
  have eb : b.drop i = rd b i :: b.drop (i + 1) := by
   rw [List.drop_eq_getElem_cons (show i < b.length by omega)]; congr 1; unfold rd; rw [List.getD_eq_getElem?_getD, Int.toNat_natCast, List.getElem?_eq_getElem (by omega)]; rfl
  by_cases he : rd a i = rd b i
  · rw [if_pos he, hw, ih k (i + 1) (by omega) (by omega) (by omega), ea, eb, he]; congr 1; simp
  · rw [if_neg he, ea, eb]; simp [he]
theorem sliceEqual_eq (a b : List Int) (hb : a.length ≤ 9223372036854775807) : ∀ k, a.length < k → slices_Equal_int_int.f k a b = some (decide (a = b)) := by
 intro k hk; unfold slices_Equal_int_int.f; by_cases hl : a.length = b.length
 · rw [if_pos (by omega)]; have := sliceEqual_loop a b hl hb a.length k 0 (by omega) (by omega) hk; simpa using this
 · rw [if_neg (by omega)]; have : a ≠ b := fun h => hl (by rw [h])
   simp [this]
def sameR (a b : S87) : Bool := decide (a.f0 = b.f0 ∧ a.f1 = b.f1)
theorem sameRule_eq (a b : S87) (hb : a.f1.length ≤ 9223372036854775807) : ∀ k, a.f1.length < k → impl_sameRule.f k a.f0 a.f1 b.f0 b.f1 = some (sameR a b) := by
 intro k hk; unfold impl_sameRule.f sameR; by_cases h : a.f0 = b.f0
 · rw [if_pos h, sliceEqual_eq _ _ hb k hk]; simp [h]
 · rw [if_neg h]; simp [h]
set_option maxHeartbeats 2000000 in
theorem pred_dup (r : S87) (B : Nat) (A : Option Addr) (c : Nat) (w : World) (hB : B < w.heap.size) (h0 : w.cell? ⟨B, 0, none⟩ = some (.int .i64 r.f0)) (h1 : w.cell? ⟨B, 1, none⟩ = some (.slice A r.f1.length c))
 (hc : r.f1.length ≤ c) (hr : Kd.C (Kd.int .i64) w A r.f1.length r.f1) : PredR 95 #[.pointer (some ⟨B, 0, none⟩)] (fun o => sameR o r) w := fun W x A1 c1 hb hc1 hr1 => by
 have g0 : W.cell? ⟨B, 0, none⟩ = some (.int .i64 r.f0) := (hb.cell (p := ⟨B, 0, none⟩) hB).trans h0; have g1 : W.cell? ⟨B, 1, none⟩ = some (.slice A r.f1.length c) := (hb.cell (p := ⟨B, 1, none⟩) hB).trans h1; have hmax : x.f1.length ≤ 9223372036854775807 := hr1.2.1; have H := zA fun (W1 : World) (hW : Below W.heap.size W W1) => impl_sameRule.calls (x.f1.length + 1) x.f0 A1 c1 x.f1 r.f0 A c r.f1 _ W1 (zS hr1 hW) hc1 (zS (zS hr hb) hW) hc (sameRule_eq x r hmax (x.f1.length + 1) (by omega))
 clear h0 h1 hr hb hr1; have hBW : B < W.heap.size := World.block_lt_of_cell? W _ g0; show Calls Try.prog 95 #[.agg #[.int .i64 x.f0, .slice A1 x.f1.length c1], .pointer (some ⟨B, 0, none⟩)] W fun e w' => e = .returned (.bool (sameR x r)) ∧ Below W.heap.size W w'
 generalize sameR x r = b at H ⊢; generalize x.f0 = y0 at H ⊢; generalize x.f1.length = yl at H hmax hc1 ⊢; generalize r.f0 = z0 at H g0 ⊢; generalize r.f1.length = zl at H g1 hc ⊢; go_enter Try.func95, Try.ntmps95; go_wp2_with (go_at_call 96; refine (H.out _ (by repeat (first | exact Below.refl _ _ | apply zB))).mono ?_; rintro e w' ⟨rfl, hb'⟩); go_ret; exact ⟨rfl, zG (by repeat (first | exact Below.refl _ _ | apply zB)) hb'⟩
def okR (nons toks : Int) (r : S87) : Bool := decide (0 ≤ r.f0 ∧ r.f0 ≤ wrap64 (nons - 1)) && decide (r.f1.length ≤ 4) && !(r.f1.any fun x => !symB nons toks x)
def rulesB (nons toks : Int) (l : List S87) : Nat → Bool
 | 0 => true
 | i + 1 => rulesB nons toks l i && (okR nons toks (rd_T87 l i) && !((l.take i).any fun o => sameR o (rd_T87 l i)))
def goodG (nons toks : Int) (l : List S87) : Bool := decide (1 ≤ nons ∧ nons ≤ 6) && (decide (1 ≤ toks ∧ toks ≤ 4) && (decide (l.length ≤ 16) && rulesB nons toks l l.length))
theorem rulesB_down (nons toks : Int) (l : List S87) (i : Nat) (h : rulesB nons toks l i = false) : ∀ d, rulesB nons toks l (i + d) = false := by
 intro d
 induction d with
 | zero => exact h
 | succ d ih => show (rulesB nons toks l (i + d) && _) = false; rw [ih]; rfl
theorem rulesB_no (nons toks : Int) (l : List S87) (i n : Nat) (hi : i < n) (h : okR nons toks (rd_T87 l i) = false ∨ ((l.take i).any fun o => sameR o (rd_T87 l i)) = true) : rulesB nons toks l n = false := by
 have h1 : rulesB nons toks l (i + 1) = false := by
  show (rulesB nons toks l i && (okR nons toks (rd_T87 l i) && !((l.take i).any fun o => sameR o (rd_T87 l i)))) = false; rcases h with h | h <;> rw [h] <;> simp
 have := rulesB_down nons toks l (i + 1) h1 (n - (i + 1)); rwa [show i + 1 + (n - (i + 1)) = n by omega] at this
def impl_isGrammar.f (a0_0 a0_1 : Int) (l0_2 : List S87) : Option Bool := some (goodG a0_0 a0_1 l0_2)
set_option maxHeartbeats 4000000 in
set_option maxRecDepth 100000 in
theorem impl_isGrammar.calls (a0_0 a0_1 : Int) (A0_2 : Option Addr) (c0_2 : Nat) (l0_2 : List S87) (r : Bool) (w : World) (hr0_2 : Kd.C k87 w A0_2 l0_2.length l0_2) (hc0_2 : l0_2.length ≤ c0_2) (h : impl_isGrammar.f a0_0 a0_1 l0_2 = some r) :
 Calls Try.prog 55 #[.agg #[.int .i64 a0_0, .int .i64 a0_1, .slice A0_2 l0_2.length c0_2]] w fun e w' => e = .returned (.bool r) ∧ Below w.heap.size w w' := by
 have hu := Try.underlying28; obtain rfl := Option.some.inj h; clear h; by_cases h1 : 1 ≤ a0_0 ∧ a0_0 ≤ 6
 · have I1 := zA (show impl_in.f a0_0 1 6 = some true by rw [impl_in_eq, decide_eq_true h1]); by_cases h2 : 1 ≤ a0_1 ∧ a0_1 ≤ 4
   · have I2 := zA (show impl_in.f a0_1 1 4 = some true by rw [impl_in_eq, decide_eq_true h2]); by_cases h3 : l0_2.length ≤ 16
     · have d3 : decide ((16 : Int) < (l0_2.length : Int)) = false := decide_eq_false (by omega); have d4 : decide (16 < l0_2.length) = false := decide_eq_false (by omega); have H1 := zA h1; have H2 := zA h2; have HB := zA (Below.refl w.heap.size w); clear h1 h2; go_enter Try.func55, Try.ntmps55; go_wp2_with (first | ((with_reducible refine gate_dst (N := 1) rfl ?_); refine box_event ?hg (N := 1) ?hd (cs := #[.int .i64 a0_0, .int .i64 a0_1, .slice A0_2 l0_2.length c0_2]) (t := 28) ?hr ?_; (case hd => rfl); (case hg => rfl); (case hr => first | (go_simp; done) | (go_simp; rfl)); intro gb hg w1 hbox hb; have n0_ := zA (zG HB.out hb); have n1_ := zA hbox; clear HB; have HB := n0_; have BK := n1_; have GE := zA (show w.heap.size ≤ gb by rw [hg]; omega); clear n0_ n1_ hb hbox hg; have hx0 : w1.cell? ⟨gb, 0, none⟩ = some (.int .i64 a0_0) := (zK BK.out 0).trans rfl; have hx1 : w1.cell? ⟨gb, 1, none⟩ = some (.int .i64 a0_1) := (zK BK.out 1).trans rfl; have hx2 : w1.cell? ⟨gb, 2, none⟩ = some (.slice A0_2 l0_2.length c0_2) := (zK BK.out 2).trans rfl) | (go_at_call 65; (with_reducible refine (impl_in.calls a0_0 1 6 true _ I1.out).mono ?_); rintro e w' ⟨rfl, ⟨nd, rfl⟩⟩) | (go_at_call 65; (with_reducible refine (impl_in.calls a0_1 1 4 true _ I2.out).mono ?_); rintro e w' ⟨rfl, ⟨nd, rfl⟩⟩)); go_loopg [24] l0_2.length (fun gg s24 wr => ∃ kk : Nat, kk ≤ l0_2.length ∧ l0_2.length - kk ≤ gg ∧ s24 = .int .i64 kk ∧ Aside0 (rulesB a0_0 a0_1 l0_2 kk = true) ∧ Aside0 (wr.heap[gb]? = some (.cells #[.int .i64 a0_0, .int .i64 a0_1, .slice A0_2 l0_2.length c0_2] 28 (0, 0))) ∧ Aside0 (Below w.heap.size w wr))
       case atStart => exact ⟨0, Nat.zero_le _, by omega, rfl, ⟨rfl⟩, ⟨by (with_reducible repeat (first | refine zI ?_ _ | refine zJ ?_ | refine zH ?_ _)); exact BK.out⟩, ⟨by repeat (first | (with_reducible first | exact HB.out | apply zB | apply zC | apply zD) | exact HB.out)⟩⟩
       case round =>
        clear hx0 hx1 hx2 BK HB d3 d4; obtain ⟨kk, hkk, hg, rfl, R, BK, HB⟩ := hrel; have hg0 : wr.cell? ⟨gb, 0, none⟩ = some (.int .i64 a0_0) := (zK BK.out 0).trans rfl; have hg1 : wr.cell? ⟨gb, 1, none⟩ = some (.int .i64 a0_1) := (zK BK.out 1).trans rfl; have hg2 : wr.cell? ⟨gb, 2, none⟩ = some (.slice A0_2 l0_2.length c0_2) := (zK BK.out 2).trans rfl; by_cases hlt : kk < l0_2.length
        · have hd : decide (kk < l0_2.length) = true := decide_eq_true hlt; obtain ⟨ad, A1, c1, e, hx0, hx1, hl1, hi1⟩ := at_T87 hr0_2 (kk : Int) (by omega) (by omega); subst e; replace hx0 := (HB.out.cell (World.block_lt_of_cell? w _ hx0)).trans hx0; replace hx1 := (HB.out.cell (World.block_lt_of_cell? w _ hx1)).trans hx1; have hx2 : wr.cell? (ad.add (kk * 2)) = some (.int .i64 (rd_T87 l0_2 kk).f0) := by simpa using hx0
          have hx3 : wr.cell? ⟨(ad.add (kk * 2)).block, (ad.add (kk * 2)).off + 1, none⟩ = some (.slice A1 (rd_T87 l0_2 kk).f1.length c1) := by simpa using hx1
          clear hx0 hx1; have HI := zA hi1; have HL := zA hl1; have L := zA hlt; have HR := zA hr0_2; have HC := zA hc0_2; have NO := zA fun h => rulesB_no a0_0 a0_1 l0_2 kk l0_2.length hlt h
          have OKD := zA (show rulesB a0_0 a0_1 l0_2 (kk + 1) = (rulesB a0_0 a0_1 l0_2 kk && (okR a0_0 a0_1 (rd_T87 l0_2 kk) && !((l0_2.take kk).any fun o => sameR o (rd_T87 l0_2 kk)))) from rfl); clear hi1 hl1 hr0_2 hc0_2; generalize rd_T87 l0_2 kk = y at hx2 hx3 HI HL NO OKD
          go_upto_region 6 with (first | ((with_reducible refine gate_dst (N := 4) rfl ?_); refine box_event ?hg (N := 4) ?hd (cs := #[.int .i64 0, .slice none 0 0]) (t := 87) ?hr ?_; (case hd => rfl); (case hg => rfl); (case hr => first | (go_simp; done) | (go_simp; rfl)); intro gc hgc w2 hbox hb; have n0_ := zA (zG HB.out hb); have n1_ := zA hbox; have n2_ := zA (zM BK.out hb); have GC := zA (show w.heap.size ≤ gc by rw [hgc]; exact zF HB.out); have NE := zA (show gb ≠ gc by rw [hgc]; exact Nat.ne_of_lt (blk_lt BK.out)); clear HB BK; have HB := n0_; have BC := n1_; have BK := n2_; clear n0_ n1_ n2_ hb hbox hgc hg0 hg1 hg2; have hc0 : w2.cell? ⟨gc, 0, none⟩ = some (.int .i64 0) := (zK BC.out 0).trans rfl; have hc1 : w2.cell? ⟨gc, 1, none⟩ = some (.slice none 0 0) := (zK BC.out 1).trans rfl; have hf0 := zL BC.out 0; have hf1 := zL BC.out 1))
          obtain ⟨w3, hw3⟩ : ∃ w3 : World, w3 = (w2.setCell ⟨gc, 0, none⟩ (.int .i64 y.f0)).setCell ⟨gc, 1, none⟩ (.slice A1 y.f1.length c1) := ⟨_, rfl⟩
          rw [← hw3]; have BC3 := zA (show w3.heap[gc]? = some (.cells #[.int .i64 y.f0, .slice A1 y.f1.length c1] 87 (0, 0)) by rw [hw3]; exact zO (cs := #[.int .i64 y.f0, .slice none 0 0]) (zO (cs := #[.int .i64 0, .slice none 0 0]) BC.out 0 _ rfl) 1 _ rfl); have BK3 := zA (show w3.heap[gb]? = some (.cells #[.int .i64 a0_0, .int .i64 a0_1, .slice (some ad) l0_2.length c0_2] 28 (0, 0)) by rw [hw3]; exact zN (zN BK.out NE.out _) NE.out _); have HB3 := zA (show Below w.heap.size w w3 by rw [hw3]; exact zE (zE HB.out GC.out) GC.out); clear hw3 BC BK HB hc0 hc1 hf0 hf1 hx2 hx3; have BC := BC3; have BK := BK3; have HB := HB3; clear BC3 BK3 HB3; have hx0 : w3.cell? ⟨gb, 0, none⟩ = some (.int .i64 a0_0) := (zK BK.out 0).trans rfl; have hx1 : w3.cell? ⟨gb, 1, none⟩ = some (.int .i64 a0_1) := (zK BK.out 1).trans rfl; have hx2 : w3.cell? ⟨gb, 2, none⟩ = some (.slice (some ad) l0_2.length c0_2) := (zK BK.out 2).trans rfl; have hy0 : w3.cell? ⟨gc, 0, none⟩ = some (.int .i64 y.f0) := (zK BC.out 0).trans rfl; have hy1 : w3.cell? ⟨gc, 1, none⟩ = some (.slice A1 y.f1.length c1) := (zK BC.out 1).trans rfl; have goodNo := zA fun (h : rulesB a0_0 a0_1 l0_2 l0_2.length = false) => show goodG a0_0 a0_1 l0_2 = false by unfold goodG; rw [h]; simp
          by_cases q1 : 0 ≤ y.f0 ∧ y.f0 ≤ wrap64 (a0_0 - 1)
          · have J1 := zA (show impl_in.f y.f0 0 (wrap64 (a0_0 - 1)) = some true by rw [impl_in_eq, decide_eq_true q1]); by_cases q2 : y.f1.length ≤ 4
            · have e2 : decide ((4 : Int) < (y.f1.length : Int)) = false := decide_eq_false (by omega); have e3 : decide (4 < y.f1.length) = false := decide_eq_false (by omega); cases q3 : (y.f1.any fun x => !symB a0_0 a0_1 x) with
              | true =>
               have J3 := zA (show impl_areSymbols.f y.f1 a0_0 a0_1 = some false by unfold impl_areSymbols.f; rw [q3]; rfl); have J4 := zA (goodNo.out (NO.out (.inl (by unfold okR; rw [q3]; simp)))); clear q1 q2 q3 goodNo NO OKD; go_wp2_with (first | (go_at_call 65; (with_reducible refine (impl_in.calls y.f0 0 (wrap64 (a0_0 - 1)) true _ J1.out).mono ?_); rintro e w' ⟨rfl, ⟨nd, rfl⟩⟩) | (go_at_call 71; (with_reducible refine (impl_areSymbols.calls _ _ y.f1 a0_0 a0_1 false _ (zS HI.out (by repeat (first | (with_reducible first | exact HB.out | apply zB | apply zC | apply zD) | exact HB.out))) HL.out J3.out).mono ?_); rintro e w' ⟨rfl, hb'⟩)); go_ret; exact ⟨by rw [J4.out]; rfl, zG (by repeat (first | (with_reducible first | exact HB.out | apply zB | apply zC | apply zD) | exact HB.out)) hb'⟩
              | false =>
               have J3 := zA (show impl_areSymbols.f y.f1 a0_0 a0_1 = some true by unfold impl_areSymbols.f; rw [q3]; rfl); have J5 := zA (show okR a0_0 a0_1 y = true by unfold okR; rw [q3, decide_eq_true q1, decide_eq_true q2]; rfl); have eg : ∀ args w, (callFunc 95 args).run Try.prog w = .ok (.enter 95 args) w := enters_of Try.func95 (by kernel_rfl) rfl; have CF := zA fun (W : World) (hW : Below w.heap.size w W) (hbc : W.heap[gc]? = some (.cells #[.int .i64 y.f0, .slice A1 y.f1.length c1] 87 (0, 0))) =>
                containsFunc_rule _ #[.pointer (some ⟨gc, 0, none⟩)] eg (fun o => sameR o y) (some ad) c0_2 (l0_2.take kk) W (zS (Kd.C_take HR.out hkk) hW) (by rw [List.length_take]; have := HC.out; omega)
                 (pred_dup y gc A1 c1 W (blk_lt hbc) ((zK hbc 0).trans rfl) ((zK hbc 1).trans rfl) HL.out (zS HI.out hW))
               obtain ⟨i0, hi0, _, hsz0, _⟩ := info_parts info87; have hcut := cut_to (P := Try.prog) 26 87 .i64 Try.underlying26 hi0 (some ad) l0_2.length c0_2 (kk : Int) (by omega) (by omega) HC.out; rw [Int.toNat_natCast] at hcut; have hlen := zA (show (l0_2.take kk).length = kk by rw [List.length_take]; omega); clear q1 q2 q3 eg hi0 hsz0
               go_upto_region 8 with (first | (go_at_call 65; (with_reducible refine (impl_in.calls y.f0 0 (wrap64 (a0_0 - 1)) true _ J1.out).mono ?_); rintro e w' ⟨rfl, ⟨nd, rfl⟩⟩) | (go_at_call 71; (with_reducible refine (impl_areSymbols.calls _ _ y.f1 a0_0 a0_1 true _ (zS HI.out (by repeat (first | (with_reducible first | exact HB.out | apply zB | apply zC | apply zD) | exact HB.out))) HL.out J3.out).mono ?_); rintro e w4 ⟨rfl, hb'⟩; have n0_ := zA (zG (by repeat (first | (with_reducible first | exact HB.out | apply zB | apply zC | apply zD) | exact HB.out)) hb'); have n1_ := zA (zM (by (with_reducible repeat (first | refine zI ?_ _ | refine zJ ?_ | refine zH ?_ _)); exact BC.out) hb'); have n2_ := zA (zM (by (with_reducible repeat (first | refine zI ?_ _ | refine zJ ?_ | refine zH ?_ _)); exact BK.out) hb'); clear HB BC BK hb' hx0 hx1 hx2 hy0 hy1; have HB := n0_; have BC := n1_; have BK := n2_; clear n0_ n1_ n2_))
               have hz2 : w4.cell? ⟨gb, 2, none⟩ = some (.slice (some ad) l0_2.length c0_2) := (zK BK.out 2).trans rfl; have CC := CF.out w4 HB.out BC.out; rw [hlen.out] at CC; clear CF hlen; cases q4 : ((l0_2.take kk).any fun o => sameR o y) with
               | true =>
                have J4 := zA (goodNo.out (NO.out (.inr q4))); rw [q4] at CC; clear q4 goodNo NO OKD; go_wp2_with (go_at_call 94; refine CC.mono ?_; rintro e w5 ⟨rfl, hb'⟩; clear CC); go_ret; exact ⟨by rw [J4.out]; rfl, zG HB.out hb'⟩
               | false =>
                have J4 := zA (show rulesB a0_0 a0_1 l0_2 (kk + 1) = true by rw [OKD.out, R.out, J5.out, q4]; rfl); rw [q4] at CC; clear q4 goodNo NO OKD; go_wp2_with (go_at_call 94; refine CC.mono ?_; rintro e w5 ⟨rfl, hb'⟩; clear CC)
                go_roundg (l0_2.length - (kk + 1))
                case measure => have := L.out; omega
                case rel => exact ⟨kk + 1, by have := L.out; omega, by omega, by go_num, J4, ⟨zM BK.out hb'⟩, ⟨zG HB.out hb'⟩⟩
            · have e2 : decide ((4 : Int) < (y.f1.length : Int)) = true := decide_eq_true (by omega); have e3 : decide (4 < y.f1.length) = true := decide_eq_true (by omega); have J4 := zA (goodNo.out (NO.out (.inl (by unfold okR; rw [decide_eq_false q2]; simp)))); clear q1 q2 goodNo NO OKD; go_wp2_with (go_at_call 65; (with_reducible refine (impl_in.calls y.f0 0 (wrap64 (a0_0 - 1)) true _ J1.out).mono ?_); rintro e w' ⟨rfl, ⟨nd, rfl⟩⟩); go_ret; exact ⟨by rw [J4.out]; rfl, (by repeat (first | (with_reducible first | exact HB.out | apply zB | apply zC | apply zD) | exact HB.out))⟩
          · have J1 := zA (show impl_in.f y.f0 0 (wrap64 (a0_0 - 1)) = some false by rw [impl_in_eq, decide_eq_false q1]); have J4 := zA (goodNo.out (NO.out (.inl (by unfold okR; rw [decide_eq_false q1]; simp)))); clear q1 goodNo NO OKD; go_wp2_with (go_at_call 65; (with_reducible refine (impl_in.calls y.f0 0 (wrap64 (a0_0 - 1)) false _ J1.out).mono ?_); rintro e w' ⟨rfl, ⟨nd, rfl⟩⟩); go_ret; exact ⟨by rw [J4.out]; rfl, (by repeat (first | (with_reducible first | exact HB.out | apply zB | apply zC | apply zD) | exact HB.out))⟩
        · have hd : decide (kk < l0_2.length) = false := decide_eq_false hlt; have J4 := zA (show goodG a0_0 a0_1 l0_2 = true by
           have e : kk = l0_2.length := by omega
           have := R.out; rw [e] at this; unfold goodG; rw [this, decide_eq_true H1.out, decide_eq_true H2.out, decide_eq_true h3]; rfl)
          clear hlt; go_wp2; go_ret; exact ⟨by rw [J4.out]; rfl, (by repeat (first | (with_reducible first | exact HB.out | apply zB | apply zC | apply zD) | exact HB.out))⟩
     · have d3 : decide ((16 : Int) < (l0_2.length : Int)) = true := decide_eq_true (by omega); have d4 : decide (16 < l0_2.length) = true := decide_eq_true (by omega); have J4 := zA (show goodG a0_0 a0_1 l0_2 = false by unfold goodG; rw [decide_eq_false h3]; simp); have HB := zA (Below.refl w.heap.size w); clear h1 h2 h3; go_enter Try.func55, Try.ntmps55; go_wp2_with (first | ((with_reducible refine gate_dst (N := 1) rfl ?_); refine box_event ?hg (N := 1) ?hd (cs := #[.int .i64 a0_0, .int .i64 a0_1, .slice A0_2 l0_2.length c0_2]) (t := 28) ?hr ?_; (case hd => rfl); (case hg => rfl); (case hr => first | (go_simp; done) | (go_simp; rfl)); intro gb hg w1 hbox hb; have n0_ := zA (zG HB.out hb); have n1_ := zA hbox; clear HB; have HB := n0_; have BK := n1_; clear n0_ n1_ hb hbox hg; have hx0 : w1.cell? ⟨gb, 0, none⟩ = some (.int .i64 a0_0) := (zK BK.out 0).trans rfl; have hx1 : w1.cell? ⟨gb, 1, none⟩ = some (.int .i64 a0_1) := (zK BK.out 1).trans rfl; have hx2 : w1.cell? ⟨gb, 2, none⟩ = some (.slice A0_2 l0_2.length c0_2) := (zK BK.out 2).trans rfl) | (go_at_call 65; (with_reducible refine (impl_in.calls a0_0 1 6 true _ I1.out).mono ?_); rintro e w' ⟨rfl, ⟨nd, rfl⟩⟩) | (go_at_call 65; (with_reducible refine (impl_in.calls a0_1 1 4 true _ I2.out).mono ?_); rintro e w' ⟨rfl, ⟨nd, rfl⟩⟩)); go_ret; exact ⟨by rw [J4.out]; rfl, (by repeat (first | (with_reducible first | exact HB.out | apply zB | apply zC | apply zD) | exact HB.out))⟩
   · have I2 := zA (show impl_in.f a0_1 1 4 = some false by rw [impl_in_eq, decide_eq_false h2]); have J4 := zA (show goodG a0_0 a0_1 l0_2 = false by unfold goodG; rw [decide_eq_false h2]; simp); have HB := zA (Below.refl w.heap.size w); clear h1 h2; go_enter Try.func55, Try.ntmps55; go_wp2_with (first | ((with_reducible refine gate_dst (N := 1) rfl ?_); refine box_event ?hg (N := 1) ?hd (cs := #[.int .i64 a0_0, .int .i64 a0_1, .slice A0_2 l0_2.length c0_2]) (t := 28) ?hr ?_; (case hd => rfl); (case hg => rfl); (case hr => first | (go_simp; done) | (go_simp; rfl)); intro gb hg w1 hbox hb; have n0_ := zA (zG HB.out hb); have n1_ := zA hbox; clear HB; have HB := n0_; have BK := n1_; clear n0_ n1_ hb hbox hg; have hx0 : w1.cell? ⟨gb, 0, none⟩ = some (.int .i64 a0_0) := (zK BK.out 0).trans rfl; have hx1 : w1.cell? ⟨gb, 1, none⟩ = some (.int .i64 a0_1) := (zK BK.out 1).trans rfl; have hx2 : w1.cell? ⟨gb, 2, none⟩ = some (.slice A0_2 l0_2.length c0_2) := (zK BK.out 2).trans rfl) | (go_at_call 65; (with_reducible refine (impl_in.calls a0_0 1 6 true _ I1.out).mono ?_); rintro e w' ⟨rfl, ⟨nd, rfl⟩⟩) | (go_at_call 65; (with_reducible refine (impl_in.calls a0_1 1 4 false _ I2.out).mono ?_); rintro e w' ⟨rfl, ⟨nd, rfl⟩⟩)); go_ret; exact ⟨by rw [J4.out]; rfl, (by repeat (first | (with_reducible first | exact HB.out | apply zB | apply zC | apply zD) | exact HB.out))⟩
 · have I1 := zA (show impl_in.f a0_0 1 6 = some false by rw [impl_in_eq, decide_eq_false h1]); have J4 := zA (show goodG a0_0 a0_1 l0_2 = false by unfold goodG; rw [decide_eq_false h1]; simp); have HB := zA (Below.refl w.heap.size w); clear h1; go_enter Try.func55, Try.ntmps55; go_wp2_with (first | ((with_reducible refine gate_dst (N := 1) rfl ?_); refine box_event ?hg (N := 1) ?hd (cs := #[.int .i64 a0_0, .int .i64 a0_1, .slice A0_2 l0_2.length c0_2]) (t := 28) ?hr ?_; (case hd => rfl); (case hg => rfl); (case hr => first | (go_simp; done) | (go_simp; rfl)); intro gb hg w1 hbox hb; have n0_ := zA (zG HB.out hb); have n1_ := zA hbox; clear HB; have HB := n0_; have BK := n1_; clear n0_ n1_ hb hbox hg; have hx0 : w1.cell? ⟨gb, 0, none⟩ = some (.int .i64 a0_0) := (zK BK.out 0).trans rfl; have hx1 : w1.cell? ⟨gb, 1, none⟩ = some (.int .i64 a0_1) := (zK BK.out 1).trans rfl; have hx2 : w1.cell? ⟨gb, 2, none⟩ = some (.slice A0_2 l0_2.length c0_2) := (zK BK.out 2).trans rfl) | (go_at_call 65; (with_reducible refine (impl_in.calls a0_0 1 6 false _ I1.out).mono ?_); rintro e w' ⟨rfl, ⟨nd, rfl⟩⟩)); go_ret; exact ⟨by rw [J4.out]; rfl, (by repeat (first | (with_reducible first | exact HB.out | apply zB | apply zC | apply zD) | exact HB.out))⟩
end Go.Proofs.Ytekoclhnfhbmeaa.P
namespace Go.Proofs
open Go.Shelf
def Try.srt_ren : Go.Shelf.Ren := ⟨fun | 5 => 87 | 8 => 118 | 7 => 117 | 19 => 141 | 20 => 142 | 10 => 132 | 11 => 133 | 12 => 134 | 13 => 135 | 14 => 136 | 15 => 137 | 16 => 138 | 17 => 139 | 18 => 140 | 30 => 143 | 31 => 144 | 32 => 145 | 33 => 146 | 34 => 147 | 35 => 148 | 40 => 149 | n => n, fun | 23 => 37 | 25 => 3 | 3 => 3 | 32 => 120 | 22 => 37 | 0 => 0 | 44 => 135 | 46 => 137 | 4 => 4 | 36 => 128 | 35 => 127 | 41 => 132 | 5 => 5 | 9 => 9 | 53 => 138 | 57 => 125 | 63 => 143 | 64 => 144 | n => n, fun | n => n⟩
end Go.Proofs
namespace Go.Proofs.Ytekoclhnfhbmeaa.P
open Go.RowKit Go.Proofs.YtekoclhnfhbmeaaW.PrintWords
set_option linter.unusedVariables false
set_option linter.unusedSimpArgs false
def UpI (l : List Int) : Prop := l.Pairwise (· < ·)
def putI : List Int → Int → List Int
 | [], n => [n]
 | a :: l, n => if a < n then a :: putI l n else if a = n then a :: l else n :: a :: l
def sortI (l : List Int) : List Int := l.foldl putI []
inductive UpR (ps : List (List Int)) (S : Int → Prop) : Int → Prop
 | base {x : Int} : S x → UpR ps S x
 | step {p : List Int} : p ∈ ps → UpR ps S (rd p 1) → UpR ps S (rd p 0)
end Go.Proofs.Ytekoclhnfhbmeaa.P
namespace Go.Proofs.Ytekoclhnfhbmeaa.P
open Go.RowKit Go.Proofs.YtekoclhnfhbmeaaW.PrintWords Go.Proofs.YtekoclhnfhbmeaaW.PrintLast Go.Proofs.YtekoclhnfhbmeaaW.PrintMore
set_option linter.unusedVariables false
set_option linter.unusedSimpArgs false
theorem reps_ints {W : World} {base : Nat} {ok : Nat → Prop} : ∀ (zs : List Int), Reps ((Kd.int .i64).M W base ok) 1 zs (zs.map (Value.int .i64))
 | zs => ⟨by simp, fun j x hx => by
  have h1 : (zs.map (Value.int .i64))[j]? = some (.int .i64 x) := by rw [List.getElem?_map, hx]; rfl
  rw [Nat.mul_one]; obtain ⟨h2, h3⟩ := List.getElem?_eq_some_iff.1 h1; rw [List.drop_eq_getElem_cons h2, h3]; rfl⟩
theorem ints_of {W : World} {base : Nat} {ok : Nat → Prop} {zs : List Int} {cs : List Value} (h : Reps ((Kd.int .i64).M W base ok) 1 zs cs) : cs = zs.map (Value.int .i64) := by
 obtain ⟨h1, h2⟩ := h; apply List.ext_getElem?; intro j; rw [List.getElem?_map]; cases hx : zs[j]? with
 | none =>
  have h3 := List.getElem?_eq_none_iff.1 hx; rw [List.getElem?_eq_none_iff.2 (by rw [h1, Nat.mul_one]; exact h3)]; rfl
 | some x =>
  have h3 := h2 j x hx; rw [Nat.mul_one] at h3; have h4 : (cs.drop j).take 1 = [.int .i64 x] := h3; have h5 := congrArg (fun l => l[0]?) h4; simp only [List.getElem?_take_of_lt (show 0 < 1 by decide), List.getElem?_drop, Nat.add_zero] at h5; rw [h5]; rfl
theorem R_ints {W : World} {base e : Nat} {ok : Nat → Prop} {v : Value} {zs : List Int} (h : Kd.R (Kd.int .i64) e W base ok v zs) :
 (v = .slice none 0 0 ∧ zs = []) ∨ ∃ (g cap : Nat) (cur : Array Value), v = .slice (some ⟨g, 0, none⟩) zs.length cap ∧ ok g ∧ base ≤ g ∧ W.heap[g]? = some (.cells cur e (0, 0)) ∧ zs.length ≤ cap ∧ cap ≤ maxLen ∧ cur.size = cap * 1 ∧ cur.toList.take zs.length = zs.map (Value.int .i64) := by
 obtain ⟨hok, inner, ⟨hlen, hrow⟩, hr⟩ := h; obtain rfl := ints_of hr; rcases hrow with ⟨hv, h0⟩ | ⟨g, cap, cur, hv, hbg, hh, hnc, hcm, hcs, ht⟩
 · refine .inl ⟨hv, ?_⟩; exact List.length_eq_zero_iff.1 h0
 · exact .inr ⟨g, cap, cur, hv, hok g (by rw [hv]; rfl), hbg, hh, hnc, hcm, hcs, by rw [show zs.length * (Kd.int .i64).sz = zs.length from Nat.mul_one _] at ht; exact ht⟩
theorem R_of_block {W : World} {base e g cap : Nat} {ok : Nat → Prop} {zs : List Int} {cur : Array Value} (hok : ok g) (hb : base ≤ g) (hh : W.heap[g]? = some (.cells cur e (0, 0))) (hn : zs.length ≤ cap) (hc : cap ≤ maxLen) (hs : cur.size = cap * 1) (ht : cur.toList.take zs.length = zs.map (Value.int .i64)) :
 Kd.R (Kd.int .i64) e W base ok (.slice (some ⟨g, 0, none⟩) zs.length cap) zs :=
 ⟨fun k hk => by have : g = k := by simpa [Value.ownBlock] using hk
                 rw [← this]; exact hok, zs.map (Value.int .i64), ⟨by rw [List.length_map]; exact (Nat.mul_one _).symm, .inr ⟨g, cap, cur, rfl, hb, hh, hn, hc, hs, by rw [show zs.length * (Kd.int .i64).sz = zs.length from Nat.mul_one _]; exact ht⟩⟩, reps_ints zs⟩
def slices_Sort_int_int.f (l0 : List Int) : Option (List Int) := if l0.length < 4611686018427387904 then some (l0.mergeSort fun x y => decide (x ≤ y)) else none
def BL (W : World) (g : Nat) (L : List Value) : Prop := ∃ cur : Array Value, W.heap[g]? = some (.cells cur 3 (0, 0)) ∧ cur.toList = L
section
variable {W V : World} {g : Nat} {L : List Value}
theorem BL.cell (h : BL W g L) (k : Nat) : W.cell? ⟨g, k, none⟩ = L[k]? := by
 obtain ⟨cur, hh, rfl⟩ := h; rw [zK hh, Array.getElem?_toList]
theorem BL.frozen (h : BL W g L) (k : Nat) : W.frozen? ⟨g, k, none⟩ = false := by
 obtain ⟨cur, hh, rfl⟩ := h; exact zL hh k
theorem BL.isS (h : BL W g L) (k : Nat) (hk : k < L.length) : (W.cell? ⟨g, k, none⟩).isSome = true := by
 rw [h.cell, List.getElem?_eq_getElem hk]; rfl
theorem BL.put (h : BL W g L) (o : Nat) (vs : List Value) (ho : o + vs.length ≤ L.length) : BL (W.setCells g o vs) g (L.take o ++ vs ++ L.drop (o + vs.length)) := by
 obtain ⟨cur, hh, rfl⟩ := h; obtain ⟨cur', h1, _, h3⟩ := setCells_row vs o W cur hh (by simpa using ho); exact ⟨cur', h1, h3⟩
theorem BL.same (h : BL W g L) (e : V.heap = W.heap) : BL V g L := by
 obtain ⟨cur, hh, hl⟩ := h; exact ⟨cur, by rw [e]; exact hh, hl⟩
theorem BL.shape (h : BL W g L) : W.shape? g = some (3, L.length) := by
 obtain ⟨cur, hh, rfl⟩ := h; simp [World.shape?, hh]
theorem BL.row {base : Nat} {ok : Nat → Prop} (h : BL W g L) (hb : base ≤ g) (hok : ok g) (zs : List Int) (hc : L.length ≤ maxLen) (hn : zs.length ≤ L.length) (ht : L.take zs.length = zs.map (Value.int .i64)) : Kd.R (Kd.int .i64) 3 W base ok (.slice (some ⟨g, 0, none⟩) zs.length L.length) zs := by
 obtain ⟨cur, hh, rfl⟩ := h; exact R_of_block hok hb hh (by simpa using hn) (by simpa using hc) (by simp) ht
end
theorem below_cells {B : Nat} {w W : World} {g : Nat} (h : Below B w W) (hg : B ≤ g) (o : Nat) (vs : List Value) : Below B w (W.setCells g o vs) := by
 obtain ⟨s1, s2, s3, s4⟩ := setCells_same g vs o W; exact ⟨s1.trans h.os, s2.trans h.tape, s3.trans h.output, by rw [s4]; exact h.size, fun k hk => (setCells_far vs o k (fun e => by omega)).trans (h.block k hk)⟩
theorem C_vals {W : World} {ad : Addr} {m : Nat} {vs : List Int} (h : Kd.C (Kd.int .i64) W (some ad) m vs) : ∀ j v, (vs.map (Value.int .i64))[j]? = some v → W.cell? (ad.add j) = some v := fun j v hj => by
 rw [List.getElem?_map] at hj; obtain ⟨x, hx, rfl⟩ := Option.map_eq_some_iff.1 hj; have hjl : j < vs.length := (List.getElem?_eq_some_iff.1 hx).1; obtain ⟨ad', e, hc⟩ := Kd.at_int h (j : Int) (by omega) (by have := h.1; omega); injection e with e; subst e; rw [Int.toNat_natCast] at hc; rw [hc]; congr 2; unfold rd; rw [Int.toNat_natCast, List.getD_eq_getElem?_getD, hx]; rfl
theorem ones_map (vs : List Int) : ∀ v ∈ vs.map (Value.int .i64), v.oneCell' = true := fun v hv => by
 obtain ⟨x, _, rfl⟩ := List.mem_map.1 hv; rfl
theorem wpList_copyR {P : Program} (w : World) {ops : Array Oper} {rest : List Oper} {o : Oper} {a : Act} {Q : Exit → Act → World → Prop} (hgd : o.guard = none) (d s : Operand) (t t' : TypeId)
 (ho : o.op = .call { callee := .builtin .copy, args := #[d, s], argTypes := #[t, t'] }) (v u : Value) (hd : a.eval d = v) (hs : a.eval s = u) {v' : Value} {w' : World}
 (hr : (Builtin.copy_ #[t, t'] o.type #[v, u]).run P w = .ok v' w') (h : wpList P ops Q rest (a.put o.dst v') w') : wpList P ops Q (o :: rest) a w :=
 wpList_plain hgd fun K hK => by
  unfold Oper.wp execOp; simp only [ho, resolve, invoke, builtin, Sem.run_bind, Sem.run_pure, Result.andThen_ok, List.map_toArray, List.map_cons, List.map_nil, hd, hs, hr]; exact hK _ _ h
theorem wpList_clearR {P : Program} (w : World) {ops : Array Oper} {rest : List Oper} {o : Oper} {a : Act} {Q : Exit → Act → World → Prop} (hgd : o.guard = none) (d : Operand) (t : TypeId)
 (ho : o.op = .call { callee := .builtin .clear, args := #[d], argTypes := #[t] }) (v : Value) (hd : a.eval d = v) {v' : Value} {w' : World}
 (hr : (Builtin.clear_ #[t] o.type #[v]).run P w = .ok v' w') (h : wpList P ops Q rest (a.put o.dst v') w') : wpList P ops Q (o :: rest) a w :=
 wpList_plain hgd fun K hK => by
  unfold Oper.wp execOp; simp only [ho, resolve, invoke, builtin, Sem.run_bind, Sem.run_pure, Result.andThen_ok, List.map_toArray, List.map_cons, List.map_nil, hd, hr]; exact hK _ _ h
theorem step_copyR {P : Program} {ops : Array Oper} {o : Oper} {a : Act} {w : World} {K : Act → World → Prop} {Q : Exit → Act → World → Prop} {E : Prop}
 (hg : o.guard = none) (d x : Operand) (dT sT : TypeId) (hop : o.op = Op.call { callee := Callee.builtin Builtin.copy, args := #[d, x], argTypes := #[dT, sT] })
 (v u : Value) (hd : a.eval d = v) (hx : a.eval x = u) {v' : Value} {w' : World} (hr : (Builtin.copy_ #[dT, sT] o.type #[v, u]).run P w = .ok v' w') (hK : K (a.put o.dst v') w') :
 if Region.wanted o (yielded ops a.tmps) = true then Oper.wp P o a w K Q else E := by
 have hw : Region.wanted o (yielded ops a.tmps) = true := by simp [Region.wanted, hg]
 rw [if_pos hw]; unfold Oper.wp; simp [execOp, hop, resolve, invoke, builtin, hd, hx, hr, Result.andThen]; exact hK
theorem int_one : (Try.prog.info? 3).map (·.size) = some 1 := by
 obtain ⟨i0, hi, _, h1, _⟩ := info_parts info3; rw [hi]; simp [h1]
theorem copy_bl {W : World} {g : Nat} {L : List Value} (hb : BL W g L) (o dn dc : Nat) (ad : Addr) (m sc : Nat) (cs : List Value) (hcs : cs.length = m) (hsrc : ∀ j v, cs[j]? = some v → W.cell? (ad.add j) = some v) (h1 : ∀ v ∈ cs, v.oneCell' = true) (hm : m ≤ dn) (ho : o + m ≤ L.length) :
 ∀ ty, (Builtin.copy_ #[37, 37] ty #[.slice (some ⟨g, o, none⟩) dn dc, .slice (some ad) m sc]).run Try.prog W = .ok (goInt m) (W.setCells g o cs) := fun ty => by
 have h := run_copy_cells (P := Try.prog) W 37 37 ty 3 g o dn dc ad m sc cs Try.underlying37 int_one (by rw [hcs]; simp only [Nat.min_def]; split <;> omega) hsrc (fun j hj => hb.isS _ (by omega)) (fun j hj => hb.frozen _) h1; rw [h, hcs]
theorem copy_v {W : World} {g : Nat} {L : List Value} (hb : BL W g L) (o dn dc : Nat) (A : Option Addr) (m sc : Nat) (vs : List Int) (hv : Kd.C (Kd.int .i64) W A m vs) (hm : m ≤ dn) (ho : o + m ≤ L.length) :
 ∀ ty, (Builtin.copy_ #[37, 37] ty #[.slice (some ⟨g, o, none⟩) dn dc, .slice A m sc]).run Try.prog W = .ok (goInt m) (W.setCells g o (vs.map (Value.int .i64))) := fun ty => by
 cases A with
 | some ad => exact copy_bl hb o dn dc ad m sc _ (by rw [List.length_map]; exact hv.1) (C_vals hv) (ones_map vs) hm ho ty
 | none =>
  have h0 : m = 0 := by
   rcases Nat.eq_zero_or_pos m with h0 | h0
   · exact h0
   · obtain ⟨ad, h, _⟩ := hv.2.2 h0; cases h
  subst h0; obtain rfl : vs = [] := List.eq_nil_of_length_eq_zero hv.1; obtain ⟨i0, hi, hz0, hz1, _⟩ := info_parts info3; simp [Builtin.copy_, run_underlying Try.underlying37, sizeOf, typeInfo, hi, hz1, Builtin.lenOf, World.setCells, Builtin.firstCells, storeCells]
theorem append_v {W : World} {g : Nat} {L : List Value} (hb : BL W g L) (i c : Nat) (A : Option Addr) (m sc : Nat) (vs : List Int) (hv : Kd.C (Kd.int .i64) W A m vs) (hc : L.length = c) (ho : i + m ≤ c) :
 ∀ ty, (Builtin.append_ #[37, 37] ty #[.slice (some ⟨g, 0, none⟩) i c, .slice A m sc]).run Try.prog W = .ok (.slice (some ⟨g, 0, none⟩) (i + m) c) (W.setCells g i (vs.map (Value.int .i64))) := fun ty => by
 obtain ⟨i0, hi, hz0, hz1, _⟩ := info_parts info3; cases A with
 | some ad =>
  have h := run_append_room_cells (P := Try.prog) (w := W) 37 ty 3 i0 Try.underlying37 hi g 0 i c ad m sc (vs.map (Value.int .i64)) (by rw [hz1, List.length_map, hv.1, Nat.mul_one]) (C_vals hv) (ones_map vs) ho (fun j hj => hb.isS _ (by rw [List.length_map, hv.1] at hj; rw [hz1]; omega)) (fun j hj => hb.frozen _); rw [h, hz1, Nat.zero_add, Nat.mul_one]
 | none =>
  have h0 : m = 0 := by
   rcases Nat.eq_zero_or_pos m with h0 | h0
   · exact h0
   · obtain ⟨ad, h, _⟩ := hv.2.2 h0; cases h
  subst h0; obtain rfl : vs = [] := List.eq_nil_of_length_eq_zero hv.1; simp [Builtin.append_, run_underlying Try.underlying37, sizeOf, typeInfo, hi, hz1, Builtin.lenOf, Builtin.firstCells, World.setCells, storeCells]; intro h; omega
theorem clear_v {W : World} {g : Nat} {L : List Value} (hb : BL W g L) (o n c : Nat) (ho : o + n ≤ L.length) :
 ∀ ty, (Builtin.clear_ #[37] ty #[.slice (some ⟨g, o, none⟩) n c]).run Try.prog W = .ok (.tuple #[]) (W.setCells g o (List.replicate n (.int .i64 0))) := fun ty => by
 have hzc : ∀ W : World, (zeroValue 3).run Try.prog W = .ok (.int .i64 0) W := fun W => by
  obtain ⟨i0, hi, hz0, hz1, _⟩ := info_parts info3; simp [zeroValue, typeInfo, hi, hz0]
 have hst := run_storeCells_cells (P := Try.prog) g o (List.replicate n (.int .i64 0)) 0 W (fun j hj => by rw [List.length_replicate] at hj; simp only [Nat.add_zero]; exact hb.isS _ (by omega)) (fun j hj => by simp only [Nat.add_zero]; exact hb.frozen _) (fun v hv => by rw [List.eq_of_mem_replicate hv]; rfl); simp only [Nat.add_zero] at hst; cases n with
 | zero => simp [Builtin.clear_, run_underlying Try.underlying37, World.setCells]
 | succ m =>
  have e : Builtin.zeroCells (Value.int .i64 0).cells (m + 1) = (List.replicate (m + 1) (Value.int .i64 0)).toArray := by
   apply Array.ext
   · simp [Builtin.zeroCells, Value.cells]
   · intro q h1 h2; simp [Builtin.zeroCells, Value.cells, Nat.mod_one]
  simp [Builtin.clear_, run_underlying Try.underlying37, hzc, e, hst]
theorem cutLH (g o n c : Nat) (x y : Int) (lo hi : Nat) (hx : x = lo) (hy : y = hi) (h1 : lo ≤ hi) (h2 : hi ≤ c) (h3 : ¬ c = lo) : ∀ W : World, (Instr.slice 37 (.slice (some ⟨g, o, none⟩) n c) (some (.int .i64 x)) (some (.int .i64 y)) none).run Try.prog W = .ok (.slice (some ⟨g, o + lo, none⟩) (hi - lo) (c - lo)) W := fun W => by
 subst hx hy; obtain ⟨i0, hi0, _, hsz0, _⟩ := info_parts info3; have hel : Try.prog.elem 37 = 3 := by simp [Program.elem, Try.underlying37]
 have hu : Try.prog.underlying 37 = some (.slice (Try.prog.elem 37)) := by rw [hel]; exact Try.underlying37
 rw [run_slice_lh W 37 (some ⟨g, o, none⟩) n c hu .i64 .i64 (lo : Int) (hi : Int) (by omega) (by omega) (by omega), hel]; simp [sizeOf, typeInfo, hi0, hsz0, sliced, Result.andThen, h3, add_at]
theorem cutL (g o n c : Nat) (x : Int) (lo : Nat) (hx : x = lo) (h1 : lo ≤ n) (h3 : ¬ c = lo) : ∀ W : World, (Instr.slice 37 (.slice (some ⟨g, o, none⟩) n c) (some (.int .i64 x)) none none).run Try.prog W = .ok (.slice (some ⟨g, o + lo, none⟩) (n - lo) (c - lo)) W := fun W => by
 subst hx; obtain ⟨i0, hi0, _, hsz0, _⟩ := info_parts info3; have hel : Try.prog.elem 37 = 3 := by simp [Program.elem, Try.underlying37]
 have hu : Try.prog.underlying 37 = some (.slice (Try.prog.elem 37)) := by rw [hel]; exact Try.underlying37
 rw [run_slice_l W 37 (some ⟨g, o, none⟩) n c hu .i64 (lo : Int) (by omega) (by omega), hel]; simp [sizeOf, typeInfo, hi0, hsz0, sliced, Result.andThen, h3, add_at]
theorem cutL0 (g o n c : Nat) (x : Int) (lo : Nat) (hx : x = lo) (h1 : lo ≤ n) (h3 : c = lo) : ∀ W : World, (Instr.slice 37 (.slice (some ⟨g, o, none⟩) n c) (some (.int .i64 x)) none none).run Try.prog W = .ok (.slice (some ⟨g, o, none⟩) (n - lo) (c - lo)) W := fun W => by
 subst hx; obtain ⟨i0, hi0, _, hsz0, _⟩ := info_parts info3; have hel : Try.prog.elem 37 = 3 := by simp [Program.elem, Try.underlying37]
 have hu : Try.prog.underlying 37 = some (.slice (Try.prog.elem 37)) := by rw [hel]; exact Try.underlying37
 rw [run_slice_l W 37 (some ⟨g, o, none⟩) n c hu .i64 (lo : Int) (by omega) (by omega), hel]; simp [sizeOf, typeInfo, hi0, hsz0, sliced, Result.andThen, h3]
theorem cutH (g o n c : Nat) (y : Int) (hi : Nat) (hy : y = hi) (h2 : hi ≤ c) : ∀ W : World, (Instr.slice 37 (.slice (some ⟨g, o, none⟩) n c) none (some (.int .i64 y)) none).run Try.prog W = .ok (.slice (some ⟨g, o, none⟩) hi c) W := fun W => by
 subst hy; obtain ⟨i0, hi0, _, hsz0, _⟩ := info_parts info3; have hel : Try.prog.elem 37 = 3 := by simp [Program.elem, Try.underlying37]
 have hu : Try.prog.underlying 37 = some (.slice (Try.prog.elem 37)) := by rw [hel]; exact Try.underlying37
 rw [run_slice_h W 37 (some ⟨g, o, none⟩) n c hu .i64 (hi : Int) (by omega) (by omega), hel]; simp [sizeOf, typeInfo, hi0, hsz0, sliced, Result.andThen, Addr.add]
def ReplPost (w0 w : World) (g : Option Nat) (z : List Int) (e : Ending) (w' : World) : Prop := ∃ v0 : Value, e = .returned v0 ∧ Kd.R (Kd.int .i64) 3 w' w0.heap.size (fun _ => True) v0 z ∧ Below w0.heap.size w0 w' ∧ ∀ k, k < w.heap.size → some k ≠ g → w'.heap[k]? = w.heap[k]?
theorem take_map {L : List Value} {l : List Int} (h : L.take l.length = l.map (Value.int .i64)) (k : Nat) (hk : k ≤ l.length) : L.take k = (l.take k).map (Value.int .i64) := by
 rw [List.map_take, ← h, List.take_take, Nat.min_eq_left hk]
theorem get_map {L : List Value} {l : List Int} (h : L.take l.length = l.map (Value.int .i64)) (k : Nat) (hk : k < l.length) : L[k]? = (l.map (Value.int .i64))[k]? := by
 rw [← h, List.getElem?_take_of_lt hk]
section
variable {g c i m cv : Nat} {l vs : List Int} {Av : Option Addr} {w0 w : World} {L : List Value}
set_option maxHeartbeats 4000000 in
set_option maxRecDepth 100000 in
theorem repl_end0 (hl : l.length = i + 1) (hn : i ≤ 100) (hc : i + 1 ≤ c) (hcm : c ≤ maxLen) (hb : w0.heap.size ≤ g) (hB : Below w0.heap.size w0 w) (hL : BL w g L) (hLc : L.length = c) (hLt : L.take l.length = l.map (Value.int .i64)) (hv : Kd.C (Kd.int .i64) w0 Av 0 []) :
 Calls Try.prog 76 #[.slice (some ⟨g, 0, none⟩) (i + 1) c, .int .i64 i, .int .i64 ((i : Int) + 1), .slice Av 0 cv] w (ReplPost w0 w (some g) (l.take i)) := by
 have hne : ¬ c = i := by omega
 have h18 := cutLH g 0 (i + 1) c (i : Int) ((i : Int) + 1) i (i + 1) rfl (by omega) (by omega) (by omega) hne; have h32 := cutH g 0 (i + 1) c (i : Int) i rfl (by omega); have h43 := cutL g 0 (i + 1) c (i : Int) i rfl (by omega) hne; have hap := append_v hL i c Av 0 cv [] (zS hv hB) hLc (by omega); have hcl := clear_v (W := w) hL (0 + i) 1 (c - i) (by omega); have e1 : ((i : Int) = (i : Int) + 1) = False := eq_false (by omega); have e2 : (((i : Int) + 1) = ((i + 1 : Nat) : Int)) = True := eq_true (by omega); have e4 : (i : Int) < ((i + 1 : Nat) : Int) := by omega
 have e5 : decide ((i : Int) < ((i + 1 : Nat) : Int)) = true := decide_eq_true e4; have e6 : decide (i < i + 1) = true := decide_eq_true (by omega); simp only [List.map_nil, World.setCells, Nat.add_zero, Nat.add_sub_cancel_left, Nat.zero_add] at hap h18 h43 hcl; have hf : ReplPost w0 w (some g) (l.take i) (.returned (.slice (some ⟨g, 0, none⟩) i c)) (w.setCells g i (List.replicate 1 (.int .i64 0))) := by
  refine ⟨_, rfl, ?_, below_cells hB hb _ _, fun k _ hk => setCells_far _ _ k (fun e => hk (by rw [e]))⟩; have h1 := hL.put i (List.replicate 1 (.int .i64 0)) (by simp; omega); have h2 : (L.take i ++ List.replicate 1 (Value.int .i64 0) ++ L.drop (i + (List.replicate 1 (Value.int .i64 0)).length)).length = c := by simp; omega
  have h3 := h1.row (base := w0.heap.size) (ok := fun _ => True) hb trivial (l.take i) (by omega) (by rw [h2, List.length_take]; omega) (by
   rw [List.length_take, Nat.min_eq_left (by omega), List.append_assoc, List.take_append_of_le_length (by rw [List.length_take]; omega), List.take_of_length_le (by rw [List.length_take]; omega)]; exact take_map hLt i (by omega))
  rw [h2, List.length_take, Nat.min_eq_left (by omega)] at h3; exact h3
 have HF := zA hf; clear hf hv hL hB hLc hLt hl; go_enter Try.func76, Try.ntmps76; go_wp2_with (first | ((with_reducible refine gate_builtin (b := .append) (xs := #[.tmp 32, .tmp 33]) rfl ?_); at_builtin; refine Lib.wpList_append_run _ rfl _ _ _ _ rfl _ _ rfl rfl _ _ (hap _) ?_) | ((with_reducible refine gate_builtin (b := .clear) (xs := #[.tmp 43]) rfl ?_); refine wpList_clearR _ rfl _ _ rfl _ rfl (hcl _) ?_)); go_ret; exact HF.out
set_option maxHeartbeats 4000000 in
set_option maxRecDepth 100000 in
theorem repl_end (hl : l.length = i + 1) (hn : i ≤ 100) (hm0 : 0 < m) (hm : m ≤ 100) (hc : i + 1 ≤ c) (hcm : c ≤ maxLen) (hb : w0.heap.size ≤ g) (hB : Below w0.heap.size w0 w) (hL : BL w g L) (hLc : L.length = c) (hLt : L.take l.length = l.map (Value.int .i64)) (hv : Kd.C (Kd.int .i64) w0 Av m vs) :
 Calls Try.prog 76 #[.slice (some ⟨g, 0, none⟩) (i + 1) c, .int .i64 i, .int .i64 ((i : Int) + 1), .slice Av m cv] w (ReplPost w0 w (some g) (l.take i ++ vs)) := by
 have hne : ¬ c = i := by omega
 have h18 := cutLH g 0 (i + 1) c (i : Int) ((i : Int) + 1) i (i + 1) rfl (by omega) (by omega) (by omega) hne; have h32 := cutH g 0 (i + 1) c (i : Int) i rfl (by omega); have e1 : ((i : Int) = (i : Int) + 1) = False := eq_false (by omega); have e2 : (((i : Int) + 1) = ((i + 1 : Nat) : Int)) = True := eq_true (by omega); have HV := zA (zS hv hB); have hvl := hv.1; have HR := zA (show Kd.R (Kd.int .i64) 3 w w0.heap.size (fun _ => True) (.slice (some ⟨g, 0, none⟩) i c) (l.take i) by
  have h3 := hL.row (base := w0.heap.size) (ok := fun _ => True) hb trivial (l.take i) (by omega) (by rw [List.length_take]; omega) (by rw [List.length_take, Nat.min_eq_left (by omega)]; exact take_map hLt i (by omega)); rw [hLc, List.length_take, Nat.min_eq_left (by omega)] at h3; exact h3)
 have htl : (l.take i).length = i := by rw [List.length_take]; omega
 have HB := zA hB; simp only [Nat.add_sub_cancel_left, Nat.zero_add] at h18; generalize l.take i = zi at HR htl ⊢; clear hv hL hB hLc hLt hl; go_enter Try.func76, Try.ntmps76
 go_upto_region 6 with (((with_reducible refine gate_builtin (b := .append) (xs := #[.tmp 32, .tmp 33]) rfl ?_); at_builtin; refine Kd.R_append_row (Value.int .i64) (0 : Int) (w0 := w0) w0.heap.size rfl (.tmp 32) (.tmp 33) 37 3 (.int .i64 0) 8 rfl Try.underlying37 info3 rfl (by decide) _ zi vs Av m cv (fun _ => True) rfl rfl (fun _ _ => trivial) HR.out HV.out HB.out (zF HB.out) (by omega) ?_; intro v1 w1 ho hb_ hg hat; have HO := zA (show Kd.R (Kd.int .i64) 3 w1 w0.heap.size (fun _ => True) v1 (zi ++ vs) from ho); have HB2 := zA hb_; have KG := zA (show ∀ k, k < w.heap.size → some k ≠ some g → w1.heap[k]? = w.heap[k]? from fun k h1 h2 => hg.block k h1 h2); clear ho hb_ hg hat HB HV HR))
 obtain ⟨A2, c2, ev⟩ := Kd.R_slice HO.out; subst ev; have hll : (zi ++ vs).length = i + m := by rw [List.length_append, htl, hvl]
 rw [hll] at HO ⊢; have e3 : decide (i + m < i + 1) = false := decide_eq_false (by omega); have e4 : ((i : Int) + (m : Int) < (i : Int) + 1) = False := eq_false (by omega); have e5 : (i + m < i + 1) = False := eq_false (by omega); have e6 : decide (((i + m : Nat) : Int) < ((i + 1 : Nat) : Int)) = false := decide_eq_false (by omega); have e7 : (((i + m : Nat) : Int) < ((i + 1 : Nat) : Int)) = False := eq_false (by omega); have HF := zA (show ReplPost w0 w (some g) (zi ++ vs) (.returned (.slice A2 (i + m) c2)) w1 from ⟨_, rfl, HO.out, HB2.out, KG.out⟩); clear HO HB2 hll KG; go_wp2; go_ret; exact HF.out
theorem two_copies {r : Nat} {W0 : World} {gN : Nat} {LN : List Value} (hl : l.length = i + 1 + r) (hvl : vs.length = m) (hLt : L.take l.length = l.map (Value.int .i64)) (hNl : i + m + r ≤ LN.length) (hNt : LN.take i = L.take i) (T : List Value)
 (hT : T = (LN.take i ++ vs.map (Value.int .i64) ++ (l.drop (i + 1)).map (Value.int .i64)) ++ LN.drop (i + m + r)) : T.length = LN.length ∧ T.take (l.take i ++ vs ++ l.drop (i + 1)).length = (l.take i ++ vs ++ l.drop (i + 1)).map (Value.int .i64) := by
 subst hT; have h1 : (l.take i ++ vs ++ l.drop (i + 1)).length = i + m + r := by simp; omega
 have h2 : (LN.take i ++ vs.map (Value.int .i64) ++ (l.drop (i + 1)).map (Value.int .i64)).length = i + m + r := by simp; omega
 refine ⟨by rw [List.length_append, h2, List.length_drop]; omega, ?_⟩; rw [h1, List.take_append_of_le_length (by omega), List.take_of_length_le (by omega), hNt, take_map hLt i (by omega), List.map_append, List.map_append]
theorem puts_vl {LN V D : List Value} {i m r : Nat} (hV : V.length = m) (hD : D.length = r) (h : i + m + r ≤ LN.length) :
 (LN.take i ++ V ++ LN.drop (i + V.length)).take (i + m) ++ D ++ (LN.take i ++ V ++ LN.drop (i + V.length)).drop (i + m + D.length) = (LN.take i ++ V ++ D) ++ LN.drop (i + m + r) := by
 have e1 : (LN.take i ++ V).length = i + m := by rw [List.length_append, List.length_take, hV]; omega
 rw [List.take_append_of_le_length (by omega), List.take_of_length_le (by omega), List.drop_append, List.drop_of_length_le (by omega), List.nil_append, List.drop_drop, e1, hD, hV]; congr 2; omega
theorem puts_lv {LN V D : List Value} {i m r : Nat} (hV : V.length = m) (hD : D.length = r) (h : i + m + r ≤ LN.length) :
 (LN.take (i + m) ++ D ++ LN.drop (i + m + D.length)).take i ++ V ++ (LN.take (i + m) ++ D ++ LN.drop (i + m + D.length)).drop (i + V.length) = (LN.take i ++ V ++ D) ++ LN.drop (i + m + r) := by
 have e1 : (LN.take (i + m)).length = i + m := by rw [List.length_take]; omega
 rw [hV, hD]; have t1 : (LN.take (i + m) ++ D ++ LN.drop (i + m + r)).take i = LN.take i := by rw [List.append_assoc, List.take_append_of_le_length (by omega), List.take_take, Nat.min_eq_left (by omega)]
 have t2 : (LN.take (i + m) ++ D ++ LN.drop (i + m + r)).drop (i + m) = D ++ LN.drop (i + m + r) := by rw [List.append_assoc, List.drop_append_of_le_length (by omega), List.drop_of_length_le (by omega), List.nil_append]
 rw [t1, t2]; simp only [List.append_assoc]
set_option maxHeartbeats 4000000 in
set_option maxRecDepth 100000 in
theorem repl_easy {r : Nat} (hl : l.length = i + 1 + r) (hr : 0 < r) (hn : i + 1 + r ≤ 100) (hm : m ≤ 1) (hc : i + 1 + r ≤ c) (hroom : i + m + r ≤ c) (hcm : c ≤ maxLen) (hb : w0.heap.size ≤ g) (hB : Below w0.heap.size w0 w) (hL : BL w g L) (hLc : L.length = c) (hLt : L.take l.length = l.map (Value.int .i64)) (hv : Kd.C (Kd.int .i64) w0 Av m vs) :
 Calls Try.prog 76 #[.slice (some ⟨g, 0, none⟩) (i + 1 + r) c, .int .i64 i, .int .i64 ((i : Int) + 1), .slice Av m cv] w (ReplPost w0 w (some g) (l.take i ++ vs ++ l.drop (i + 1))) := by
 have hcm9 : c ≤ 9223372036854775807 := by simpa [maxLen] using hcm
 have hne : ¬ c = i := by omega
 have hne1 : ¬ c = i + 1 := by omega
 have hnem : ¬ c = i + m := by omega
 have h18 := cutLH g 0 (i + 1 + r) c (i : Int) ((i : Int) + 1) i (i + 1) rfl (by omega) (by omega) (by omega) hne; have h32 := cutH g 0 (i + 1 + r) c (i : Int) i rfl (by omega); have h54 := cutL g 0 (i + 1 + r) c ((i : Int) + 1) (i + 1) (by omega) (by omega) hne1; have h86 := cutH g 0 (i + 1 + r) c ((i : Int) + (m : Int) + (r : Int)) (i + m + r) (by omega) hroom; have h95 := cutL g 0 (i + m + r) c (i : Int) i rfl (by omega) hne; have h103 := cutL g 0 (i + m + r) c ((i : Int) + (m : Int)) (i + m) (by omega) (by omega) hnem; obtain ⟨o', hol, hoo, h110⟩ : ∃ o', o' + (1 - m) ≤ L.length ∧ (m = 1 ∨ o' = i + m + r) ∧ ∀ W : World, (Instr.slice 37 (.slice (some ⟨g, 0, none⟩) (i + 1 + r) c) (some (.int .i64 ((i : Int) + (m : Int) + (r : Int)))) none none).run Try.prog W = .ok (.slice (some ⟨g, o', none⟩) (i + 1 + r - (i + m + r)) (c - (i + m + r))) W := by
  by_cases hx : c = i + m + r
  · exact ⟨0, by omega, .inl (by omega), cutL0 g 0 (i + 1 + r) c _ (i + m + r) (by omega) (by omega) hx⟩
  · exact ⟨0 + (i + m + r), by omega, .inr (by omega), cutL g 0 (i + 1 + r) c _ (i + m + r) (by omega) (by omega) hx⟩
 have er : i + 1 + r - (i + 1) = r := by omega
 have er2 : i + m + r - (i + m) = r := by omega
 have er3 : i + 1 + r - (i + m + r) = 1 - m := by omega
 have er4 : i + m + r - i = m + r := by omega
 rw [er] at h54; rw [er2] at h103; rw [er3] at h110; rw [er4] at h95; simp only [Nat.zero_add, Nat.add_sub_cancel_left] at h18 h54 h95 h103; have hvl := hv.1; have HB := zA hB; have HV := zA hv; have HL := zA hL; have hx1 : vs.map (Value.int .i64) = vs.map (Value.int .i64) := rfl; obtain ⟨V, hV⟩ : ∃ V, V = vs.map (Value.int .i64) := ⟨_, rfl⟩
 obtain ⟨D, hD⟩ : ∃ D, D = (l.drop (i + 1)).map (Value.int .i64) := ⟨_, rfl⟩
 have hVl : V.length = m := by rw [hV, List.length_map, hvl]
 have hDl : D.length = r := by rw [hD, List.length_map, List.length_drop]; omega
 have DG : ∀ j u, D[j]? = some u → L[i + 1 + j]? = some u := fun j u hj => by
  have hjr : j < r := by rw [← hDl]; exact (List.getElem?_eq_some_iff.1 hj).1
  rw [get_map hLt (i + 1 + j) (by omega), ← hj, hD, List.getElem?_map, List.getElem?_map, List.getElem?_drop]
 have D1 : ∀ v ∈ D, v.oneCell' = true := by rw [hD]; exact ones_map _
 have TC := zA (two_copies (r := r) (LN := L) (W0 := w0) (gN := g) (i := i) (m := m) (L := L) (l := l) (vs := vs) hl hvl hLt (by omega) rfl); rw [← hV, ← hD] at TC; have hzl : (l.take i ++ vs ++ l.drop (i + 1)).length = i + m + r := by simp; omega
 have HZL := zA hzl; have hcp1 : ∀ (W : World) (hW : BL W g L) (hBW : Below w0.heap.size w0 W) (ty : TypeId), (Builtin.copy_ #[37, 37] ty #[.slice (some ⟨g, i, none⟩) (m + r) (c - i), .slice Av m cv]).run Try.prog W = .ok (goInt m) (W.setCells g i V) := fun W hW hBW ty => by
  rw [hV]; exact copy_v hW i (m + r) (c - i) Av m cv vs (zS HV.out hBW) (by omega) (by omega) ty
 have hcp2 : ∀ (W : World) (hW : BL W g L) (ty : TypeId), (Builtin.copy_ #[37, 37] ty #[.slice (some ⟨g, i + m, none⟩) r (c - (i + m)), .slice (some ⟨g, i + 1, none⟩) r (c - (i + 1))]).run Try.prog ((W.setCells g i V).drew) = .ok (goInt r) (((W.setCells g i V).drew).setCells g (i + m) D) := fun W hW ty => by
  have hW1 := hW.put i V (by omega); refine copy_bl (L := L.take i ++ V ++ L.drop (i + V.length)) (hW1.same (V := (W.setCells g i V).drew) rfl) (i + m) r (c - (i + m)) ⟨g, i + 1, none⟩ r (c - (i + 1)) D hDl (fun j u hj => ?_) D1 (Nat.le_refl _) (by simp; omega) ty; have hjr : j < r := by rw [← hDl]; exact (List.getElem?_eq_some_iff.1 hj).1
  rw [add_at, show i + 1 + j = i + 1 + j from rfl]; show (W.setCells g i V).cell? ⟨g, i + 1 + j, none⟩ = some u; rw [hW1.cell, List.getElem?_append_right (by simp; omega), List.getElem?_drop, ← DG j u hj]; congr 1; simp; omega
 have HCP1 := zA hcp1; have HCP2 := zA hcp2; have hlt : (i : Int) + (m : Int) ≤ (i : Int) + 1 := by omega
 have e1 : ((i : Int) = (i : Int) + 1) = False := eq_false (by omega); have e2 : (((i : Int) + 1) = ((i + 1 + r : Nat) : Int)) = False := eq_false (by omega); have e3 : ¬ ((c : Int) < (i : Int) + (m : Int) + (r : Int)) := by omega
 have e4 : decide ((c : Int) < (i : Int) + (m : Int) + (r : Int)) = false := decide_eq_false (by omega); have e5 : decide ((i : Int) + (m : Int) ≤ (i : Int) + 1) = true := decide_eq_true hlt; clear hv hL hB hcp1 hcp2 hx1 er er2 er3 er4 hzl hV hD DG D1; have hw1 : IntKind.i64.wrap ((i : Int) + (m : Int)) = (i : Int) + (m : Int) := by rw [IntKind.wrap_i64]; omega
 have mixed : Try.prog.follows .mixedOrders = true := by kernel_rfl
 go_enter Try.func76, Try.ntmps76; go_wp2
 go_quiet (fail)
 go_upto_region 17 with (fail)
 obtain ⟨W, hW⟩ : ∃ W, W = w.drewN nq := ⟨_, rfl⟩
 have HL2 := zA (show BL W g L from HL.out.same (by rw [hW]; rfl)); have HB2 := zA (show Below w0.heap.size w0 W by rw [hW]; exact zC HB.out nq); have HWH := zA (show W.heap = w.heap by rw [hW]; rfl); rw [← hW]; clear hW HL HB; have hW1 := HL2.out.put i V (by omega); have hW2 := (hW1.same (V := (W.setCells g i V).drew) rfl).put (i + m) D (by simp; omega); rw [puts_vl hVl hDl (by omega)] at hW2; obtain ⟨T, hT⟩ : ∃ T, T = (L.take i ++ V ++ D) ++ L.drop (i + m + r) := ⟨_, rfl⟩
 rw [← hT] at hW2; obtain ⟨hTl, hTt⟩ := TC.out T hT; have hcl := clear_v hW2 o' (1 - m) (c - (i + m + r)) (by omega); have hf : ReplPost w0 w (some g) (l.take i ++ vs ++ l.drop (i + 1)) (.returned (.slice (some ⟨g, 0, none⟩) (i + m + r) c)) ((((W.setCells g i V).drew).setCells g (i + m) D).setCells g o' (List.replicate (1 - m) (.int .i64 0))) := by
  refine ⟨_, rfl, ?_, below_cells (below_cells (below_drew (below_cells HB2.out hb _ _)) hb _ _) hb _ _, fun k _ hk => ?_⟩; rotate_left
  · have hk2 : k ≠ g := fun e => hk (by rw [e])
    rw [setCells_far _ _ k hk2, setCells_far _ _ k hk2]; show (W.setCells g i V).heap[k]? = w.heap[k]?; rw [setCells_far _ _ k hk2, HWH.out]
  have hW3 := hW2.put o' (List.replicate (1 - m) (.int .i64 0)) (by simp; omega); obtain ⟨T3, hT3⟩ : ∃ T3, T3 = T.take o' ++ List.replicate (1 - m) (Value.int .i64 0) ++ T.drop (o' + (List.replicate (1 - m) (Value.int .i64 0)).length) := ⟨_, rfl⟩
  rw [← hT3] at hW3; have hT3l : T3.length = c := by rw [hT3]; simp; omega
  have hT3t : T3.take (i + m + r) = T.take (i + m + r) := by
   rcases hoo with h1 | h1
   · subst h1; rw [hT3]; simp
   · subst h1; rw [hT3, List.append_assoc, List.take_append_of_le_length (by rw [List.length_take]; omega), List.take_take, Nat.min_self]
  have h3 := hW3.row (base := w0.heap.size) (ok := fun _ => True) hb trivial (l.take i ++ vs ++ l.drop (i + 1)) (by omega) (by rw [HZL.out]; omega) (by rw [HZL.out, hT3t, ← HZL.out]; exact hTt); rw [hT3l, HZL.out] at h3; exact h3
 have HF := zA hf; have HCL := zA hcl; have HC1 := zA (HCP1.out W HL2.out HB2.out); have HC2 := zA (HCP2.out W HL2.out); clear hf hcl hW1 hW2 hT hTl hTt HCP1 HCP2 HL2 HB2 TC HV
 go_upto_region 18 with (((with_reducible refine gate_builtin (b := .copy) (xs := #[.tmp 95, .tmp 96]) rfl ?_); refine wpList_copyR _ rfl _ _ _ _ rfl _ _ rfl rfl (HC1.out _) ?_))
 go_region_law_o (refine step_copyR rfl _ _ 37 37 rfl (.slice (some ⟨g, i + m, none⟩) r (c - (i + m))) (.slice (some ⟨g, i + 1, none⟩) r (c - (i + 1))) (by simp [Act.eval, Act.put]) (by simp [Act.eval, Act.put]) (HC2.out _) ?_)
 go_wp2_with (((with_reducible refine gate_builtin (b := .clear) (xs := #[.tmp 110]) rfl ?_); refine wpList_clearR _ rfl _ _ rfl _ rfl (HCL.out _) ?_)); go_ret; exact HF.out
theorem shape_of_cell {W : World} {a : Addr} {v : Value} (h : W.cell? a = some v) : ∃ t k, W.shape? a.block = some (t, k) ∧ k ≠ 0 := by
 unfold World.cell? at h; unfold World.shape?
 split at h
 · rename_i cs t fr hh
   refine ⟨t, cs.size, rfl, fun h0 => ?_⟩
   split at h
   · cases h
   · rw [Array.getElem?_eq_none (by omega)] at h; cases h
 · cases h
set_option maxHeartbeats 4000000 in
set_option maxRecDepth 100000 in
theorem repl_wide {r : Nat} (hl : l.length = i + 1 + r) (hr : 0 < r) (hn : i + 1 + r ≤ 100) (hm : 2 ≤ m) (hm9 : m ≤ 100) (hc : i + 1 + r ≤ c) (hroom : i + m + r ≤ c) (hcm : c ≤ maxLen) (hb : w0.heap.size ≤ g) (hB : Below w0.heap.size w0 w) (hL : BL w g L) (hLc : L.length = c) (hLt : L.take l.length = l.map (Value.int .i64)) (hv : Kd.C (Kd.int .i64) w0 Av m vs) :
 Calls Try.prog 76 #[.slice (some ⟨g, 0, none⟩) (i + 1 + r) c, .int .i64 i, .int .i64 ((i : Int) + 1), .slice Av m cv] w (ReplPost w0 w (some g) (l.take i ++ vs ++ l.drop (i + 1))) := by
 have hcm9 : c ≤ 9223372036854775807 := by simpa [maxLen] using hcm
 have hne : ¬ c = i := by omega
 have hne1 : ¬ c = i + 1 := by omega
 have hnem : ¬ c = i + m := by omega
 have h18 := cutLH g 0 (i + 1 + r) c (i : Int) ((i : Int) + 1) i (i + 1) rfl (by omega) (by omega) (by omega) hne; have h32 := cutH g 0 (i + 1 + r) c (i : Int) i rfl (by omega); have h54 := cutL g 0 (i + 1 + r) c ((i : Int) + 1) (i + 1) (by omega) (by omega) hne1; have h86 := cutH g 0 (i + 1 + r) c ((i : Int) + (m : Int) + (r : Int)) (i + m + r) (by omega) hroom; have h95 := cutL g 0 (i + m + r) c (i : Int) i rfl (by omega) hne; have h103 := cutL g 0 (i + m + r) c ((i : Int) + (m : Int)) (i + m) (by omega) (by omega) hnem; have er : i + 1 + r - (i + 1) = r := by omega
 have er2 : i + m + r - (i + m) = r := by omega
 have er4 : i + m + r - i = m + r := by omega
 rw [er] at h54; rw [er2] at h103; rw [er4] at h95; simp only [Nat.zero_add, Nat.add_sub_cancel_left] at h18 h54 h95 h103; have hvl := hv.1; have HB := zA hB; have HV := zA hv; have HL := zA hL; have hx1 : vs.map (Value.int .i64) = vs.map (Value.int .i64) := rfl; obtain ⟨V, hV⟩ : ∃ V, V = vs.map (Value.int .i64) := ⟨_, rfl⟩
 obtain ⟨D, hD⟩ : ∃ D, D = (l.drop (i + 1)).map (Value.int .i64) := ⟨_, rfl⟩
 have hVl : V.length = m := by rw [hV, List.length_map, hvl]
 have hDl : D.length = r := by rw [hD, List.length_map, List.length_drop]; omega
 have DG : ∀ j u, D[j]? = some u → L[i + 1 + j]? = some u := fun j u hj => by
  have hjr : j < r := by rw [← hDl]; exact (List.getElem?_eq_some_iff.1 hj).1
  rw [get_map hLt (i + 1 + j) (by omega), ← hj, hD, List.getElem?_map, List.getElem?_map, List.getElem?_drop]
 have D1 : ∀ v ∈ D, v.oneCell' = true := by rw [hD]; exact ones_map _
 have TC := zA (two_copies (r := r) (LN := L) (W0 := w0) (gN := g) (i := i) (m := m) (L := L) (l := l) (vs := vs) hl hvl hLt (by omega) rfl); rw [← hV, ← hD] at TC; have hzl : (l.take i ++ vs ++ l.drop (i + 1)).length = i + m + r := by simp; omega
 have HZL := zA hzl; have hcp1 : ∀ (W : World) (hW : BL W g L) (ty : TypeId), (Builtin.copy_ #[37, 37] ty #[.slice (some ⟨g, i + m, none⟩) r (c - (i + m)), .slice (some ⟨g, i + 1, none⟩) r (c - (i + 1))]).run Try.prog W.drew = .ok (goInt r) (W.drew.setCells g (i + m) D) := fun W hW ty => by
  refine copy_bl (L := L) (hW.same (V := W.drew) rfl) (i + m) r (c - (i + m)) ⟨g, i + 1, none⟩ r (c - (i + 1)) D hDl (fun j u hj => ?_) D1 (Nat.le_refl _) (by omega) ty; rw [add_at]; show W.cell? ⟨g, i + 1 + j, none⟩ = some u; rw [hW.cell, DG j u hj]
 have hcp2 : ∀ (W : World) (hW : BL W g L) (hBW : Below w0.heap.size w0 W) (ty : TypeId), (Builtin.copy_ #[37, 37] ty #[.slice (some ⟨g, i, none⟩) (m + r) (c - i), .slice Av m cv]).run Try.prog (W.drew.setCells g (i + m) D) = .ok (goInt m) ((W.drew.setCells g (i + m) D).setCells g i V) := fun W hW hBW ty => by
  have hW1 := (hW.same (V := W.drew) rfl).put (i + m) D (by omega); rw [hV]; exact copy_v hW1 i (m + r) (c - i) Av m cv vs (zS HV.out (below_cells (below_drew hBW) hb _ _)) (by omega) (by simp; omega) ty
 have hov : ∀ (W : World) (hW : BL W g L) (hBW : Below w0.heap.size w0 W), (callFunc 114 #[.slice (some ⟨g, i + m, none⟩) r (c - (i + m)), .slice Av m cv]).run Try.prog W = .ok (.value (.bool false)) W := fun W hW hBW => by
  obtain ⟨ad, ea, hc0⟩ := Kd.at_int HV.out 0 (by omega) (by omega); subst ea; have hblt := World.block_lt_of_cell? w0 _ hc0; rw [add_block] at hblt; have hcW := (hBW.cell (p := ad.add (0 : Int).toNat) (by rw [add_block]; exact hblt)).trans hc0; obtain ⟨tB, kB, hsb, hkB⟩ := shape_of_cell hcW; rw [add_block] at hsb; obtain ⟨i0, hi0, _, hsz0, _⟩ := info_parts info3; rw [run_callFunc_extern Try.func114 (by kernel_rfl) (by kernel_rfl) (by kernel_rfl) (e := Extern.SlicesOverlaps.overlaps #[37, 37] #[4]) (by kernel_rfl),
   Lib.run_overlaps_apart W 37 4 3 Try.underlying37 1 (fun w => by simp [sizeOf, typeInfo, hi0, hsz0]) ⟨g, i + m, none⟩ ad r (c - (i + m)) m cv (by show g ≠ ad.block; omega) 3 tB L.length kB hW.shape hsb hkB (hW.frozen _) (hW.frozen _)]
  rfl
 have HOV := zA hov; have HCP1 := zA hcp1; have HCP2 := zA hcp2; have hlt : ¬ ((i : Int) + (m : Int) ≤ (i : Int) + 1) := by omega
 have e1 : ((i : Int) = (i : Int) + 1) = False := eq_false (by omega); have e2 : (((i : Int) + 1) = ((i + 1 + r : Nat) : Int)) = False := eq_false (by omega); have e3 : ¬ ((c : Int) < (i : Int) + (m : Int) + (r : Int)) := by omega
 have e4 : decide ((c : Int) < (i : Int) + (m : Int) + (r : Int)) = false := decide_eq_false (by omega); have e5 : decide ((i : Int) + (m : Int) ≤ (i : Int) + 1) = false := decide_eq_false hlt; clear hv hL hB hcp1 hcp2 hov hx1 er er2 er4 hzl hV hD DG D1; have hw1 : IntKind.i64.wrap ((i : Int) + (m : Int)) = (i : Int) + (m : Int) := by rw [IntKind.wrap_i64]; omega
 have mixed : Try.prog.follows .mixedOrders = true := by kernel_rfl
 go_enter Try.func76, Try.ntmps76; go_wp2
 go_quiet (fail)
 go_upto_region 21 with (fail)
 obtain ⟨W, hW⟩ : ∃ W, W = w.drewN nq := ⟨_, rfl⟩
 have HL2 := zA (show BL W g L from HL.out.same (by rw [hW]; rfl)); have HB2 := zA (show Below w0.heap.size w0 W by rw [hW]; exact zC HB.out nq); have HWH := zA (show W.heap = w.heap by rw [hW]; rfl); rw [← hW]; clear hW HL HB; have hW2 := ((HL2.out.same (V := W.drew) rfl).put (i + m) D (by omega)).put i V (by simp; omega); rw [puts_lv hVl hDl (by omega)] at hW2; obtain ⟨T, hT⟩ : ∃ T, T = (L.take i ++ V ++ D) ++ L.drop (i + m + r) := ⟨_, rfl⟩
 rw [← hT] at hW2; obtain ⟨hTl, hTt⟩ := TC.out T hT; have hf : ReplPost w0 w (some g) (l.take i ++ vs ++ l.drop (i + 1)) (.returned (.slice (some ⟨g, 0, none⟩) (i + m + r) c)) ((W.drew.setCells g (i + m) D).setCells g i V) := by
  refine ⟨_, rfl, ?_, below_cells (below_cells (below_drew HB2.out) hb _ _) hb _ _, fun k _ hk => ?_⟩; rotate_left
  · have hk2 : k ≠ g := fun e => hk (by rw [e])
    rw [setCells_far _ _ k hk2, setCells_far _ _ k hk2]; show W.heap[k]? = w.heap[k]?; rw [HWH.out]
  have h3 := hW2.row (base := w0.heap.size) (ok := fun _ => True) hb trivial (l.take i ++ vs ++ l.drop (i + 1)) (by omega) (by rw [HZL.out]; omega) hTt; rw [hTl, hLc, HZL.out] at h3; exact h3
 have HF := zA hf; have HC1 := zA (HCP1.out W HL2.out); have HC2 := zA (HCP2.out W HL2.out HB2.out); have hov := HOV.out W HL2.out HB2.out; clear hf hW2 hT hTl hTt HCP1 HCP2 HL2 HB2 TC HV HOV
 go_upto_region 22 with (simp only [hov])
 clear hov
 go_region_law_o (refine step_copyR rfl _ _ 37 37 rfl (.slice (some ⟨g, i + m, none⟩) r (c - (i + m))) (.slice (some ⟨g, i + 1, none⟩) r (c - (i + 1))) (by simp [Act.eval, Act.put]) (by simp [Act.eval, Act.put]) (HC1.out _) ?_)
 go_wp2_with (((with_reducible refine gate_builtin (b := .copy) (xs := #[.tmp 133, .tmp 134]) rfl ?_); refine wpList_copyR _ rfl _ _ _ _ rfl _ _ rfl rfl (HC2.out _) ?_)); go_ret; exact HF.out
theorem wpList_append_at {P : Program} (w : World) {ops : Array Oper} {rest : List Oper} {o : Oper} {a : Act} {Q : Exit → Act → World → Prop} (hgd : o.guard = none) (s x : Operand) (t tn : TypeId)
 (ho : o.op = .call { callee := .builtin .append, args := #[s, x], argTypes := #[t, tn] }) (vs vx : Value) (hs : a.eval s = vs) (hx : a.eval x = vx)
 {v' : Value} {w' : World} (hr : (Builtin.append_ #[t, tn] o.type #[vs, vx]).run P w = .ok v' w') (h : ∀ W1, W1 = w' → wpList P ops Q rest (a.put o.dst v') W1) : wpList P ops Q (o :: rest) a w :=
 Lib.wpList_append_run w hgd s x t tn ho vs vx hs hx v' w' hr (h _ rfl)
set_option maxHeartbeats 4000000 in
set_option maxRecDepth 100000 in
theorem repl_grow {r : Nat} (hl : l.length = i + 1 + r) (hr : 0 < r) (hn : i + 1 + r ≤ 100) (hm : m ≤ 100) (hc : i + 1 + r ≤ c) (hroom : c < i + m + r) (hcm : c ≤ maxLen) (hb : w0.heap.size ≤ g) (hB : Below w0.heap.size w0 w) (hL : BL w g L) (hLc : L.length = c) (hLt : L.take l.length = l.map (Value.int .i64)) (hv : Kd.C (Kd.int .i64) w0 Av m vs) :
 Calls Try.prog 76 #[.slice (some ⟨g, 0, none⟩) (i + 1 + r) c, .int .i64 i, .int .i64 ((i : Int) + 1), .slice Av m cv] w (ReplPost w0 w (some g) (l.take i ++ vs ++ l.drop (i + 1))) := by
 have hcm9 : c ≤ 9223372036854775807 := by simpa [maxLen] using hcm
 have hne : ¬ c = i := by omega
 have hne1 : ¬ c = i + 1 := by omega
 have h18 := cutLH g 0 (i + 1 + r) c (i : Int) ((i : Int) + 1) i (i + 1) rfl (by omega) (by omega) (by omega) hne; have h32 := cutH g 0 (i + 1 + r) c (i : Int) i rfl (by omega); have h54 := cutL g 0 (i + 1 + r) c ((i : Int) + 1) (i + 1) (by omega) (by omega) hne1; have er : i + 1 + r - (i + 1) = r := by omega
 rw [er] at h54; simp only [Nat.zero_add, Nat.add_sub_cancel_left] at h18 h54; have hvl := hv.1; have HB := zA hB; have HV := zA hv; have HL := zA hL; have hx1 : vs.map (Value.int .i64) = vs.map (Value.int .i64) := rfl; obtain ⟨V, hV⟩ : ∃ V, V = vs.map (Value.int .i64) := ⟨_, rfl⟩
 obtain ⟨D, hD⟩ : ∃ D, D = (l.drop (i + 1)).map (Value.int .i64) := ⟨_, rfl⟩
 have hVl : V.length = m := by rw [hV, List.length_map, hvl]
 have hDl : D.length = r := by rw [hD, List.length_map, List.length_drop]; omega
 have DG : ∀ j u, D[j]? = some u → L[i + 1 + j]? = some u := fun j u hj => by
  have hjr : j < r := by rw [← hDl]; exact (List.getElem?_eq_some_iff.1 hj).1
  rw [get_map hLt (i + 1 + j) (by omega), ← hj, hD, List.getElem?_map, List.getElem?_map, List.getElem?_drop]
 have D1 : ∀ v ∈ D, v.oneCell' = true := by rw [hD]; exact ones_map _
 have hzl : (l.take i ++ vs ++ l.drop (i + 1)).length = i + m + r := by simp; omega
 have HZL := zA hzl; have e1 : ((i : Int) = (i : Int) + 1) = False := eq_false (by omega); have e2 : (((i : Int) + 1) = ((i + 1 + r : Nat) : Int)) = False := eq_false (by omega); have e3 : (c : Int) < (i : Int) + (m : Int) + (r : Int) := by omega
 have e4 : decide ((c : Int) < (i : Int) + (m : Int) + (r : Int)) = true := decide_eq_true e3; have HVD := zA (show V = vs.map (Value.int .i64) ∧ D = (l.drop (i + 1)).map (Value.int .i64) from ⟨hV, hD⟩); have HDG := zA DG; have HD1 := zA D1; clear hv hL hB hx1 er hzl hV hD DG D1; have hw1 : IntKind.i64.wrap ((i : Int) + (m : Int)) = (i : Int) + (m : Int) := by rw [IntKind.wrap_i64]; omega
 have mixed : Try.prog.follows .mixedOrders = true := by kernel_rfl
 go_enter Try.func76, Try.ntmps76; go_wp2
 go_quiet (fail)
 go_upto_region 11 with (fail)
 obtain ⟨W, hW⟩ : ∃ W, W = w.drewN nq := ⟨_, rfl⟩
 have HL2 := zA (show BL W g L from HL.out.same (by rw [hW]; rfl)); have HB2 := zA (show Below w0.heap.size w0 W by rw [hW]; exact zC HB.out nq); have HWH := zA (show W.heap = w.heap by rw [hW]; rfl); rw [← hW]; clear hW HL HB; obtain ⟨G, hG⟩ : ∃ G, G = grownCap W (i + (m + r)) c 3 := ⟨_, rfl⟩
 obtain ⟨i0, hi0, hz0, hzs, hzb⟩ := info_parts info3; obtain ⟨ROW, hROW⟩ : ∃ ROW : Array Value, ROW = (L.take i).toArray ++ Builtin.zeroCells (Value.int .i64 0).cells (m + r) ++ Builtin.zeroCells (Value.int .i64 0).cells (G - (i + (m + r))) := ⟨_, rfl⟩
 have hrz : ∀ (ty : TypeId) (x : Int), x = ((m + r : Nat) : Int) → (Builtin.append_ #[37, 3] ty #[.slice (some ⟨g, 0, none⟩) i c, .int .i64 x]).run Try.prog W = .ok (.slice (some ⟨W.heap.size, 0, none⟩) (i + (m + r)) G) (W.drew.alloc (.cells ROW 3)) := fun ty x hx => by
  have hold : (Builtin.firstCells i0.size i (.slice (some ⟨g, 0, none⟩) i c)).run Try.prog W.drew = .ok (L.take i).toArray W.drew := by
   rw [hzs]; exact run_firstCells_some W.drew 1 i ⟨g, 0, none⟩ i c (L.take i) (by rw [List.length_take]; omega) (fun j v hj => by
    rw [add_at, Nat.zero_add]; rw [List.getElem?_take] at hj
    split at hj
    · exact (HL2.out.cell j).trans hj
    · cases hj)
  have h := Lib.run_append_grow_zeros W 37 3 ty 3 i0 _ .i64 .i64 Try.underlying37 Try.underlying3 hi0 hz0 (some ⟨g, 0, none⟩) i c (L.take i) hold (m + r) (by omega) (by omega) (by omega) (by omega) (by rw [hzb]; omega) (by rw [hzb]; exact growslice_fits (by omega) (by omega)); rw [hx, hROW, hG]; exact h
 have hGn : i + (m + r) ≤ G := by rw [hG]; exact grownCap_ge W _ _ _
 have hGm : G ≤ maxLen := by rw [hG]; exact grownCap_le_maxLen W (i + (m + r)) c 3 (by unfold maxLen; omega)
 have hRl : ROW.toList.length = G := by
  rw [hROW]; simp [Builtin.zeroCells, Value.cells]; omega
 have hRt : ROW.toList.take i = L.take i := by
  rw [hROW, Array.toList_append, Array.toList_append, List.append_assoc, List.take_append_of_le_length (by simp; omega), List.take_of_length_le (by simp; omega)]
 have hgW : g < W.heap.size := by obtain ⟨cur, hh, _⟩ := HL2.out; exact blk_lt hh
 obtain ⟨W1, hW1⟩ : ∃ W1, W1 = W.drew.alloc (.cells ROW 3) := ⟨_, rfl⟩
 rw [← hW1] at hrz; obtain ⟨gN, hgN⟩ : ∃ gN, gN = W.heap.size := ⟨_, rfl⟩
 rw [← hgN] at hrz hgW; have hbN : w0.heap.size ≤ gN := by rw [hgN]; exact zF HB2.out
 have hN1 : BL W1 gN ROW.toList := ⟨ROW, by rw [hW1, hgN]; exact blk_new W.drew _, rfl⟩
 have hO1 : BL W1 g L := by
  obtain ⟨cur, hh, hl_⟩ := HL2.out; exact ⟨cur, by rw [hW1]; exact zH (w := W.drew) hh _, hl_⟩
 have hB1 : Below w0.heap.size w0 W1 := by rw [hW1]; exact zB (below_drew HB2.out) _
 have hGm9 : G ≤ 9223372036854775807 := by simpa [maxLen] using hGm
 have hcp1 : ∀ (ty : TypeId), (Builtin.copy_ #[37, 37] ty #[.slice (some ⟨gN, i, none⟩) (m + r) (G - i), .slice Av m cv]).run Try.prog W1 = .ok (goInt m) (W1.setCells gN i V) := fun ty => by
  rw [HVD.out.1]; exact copy_v hN1 i (m + r) (G - i) Av m cv vs (zS HV.out hB1) (by omega) (by omega) ty
 have hN2 := (hN1.put i V (by omega)).same (V := (W1.setCells gN i V).drew) rfl; have hcp2 : ∀ (ty : TypeId), (Builtin.copy_ #[37, 37] ty #[.slice (some ⟨gN, i + m, none⟩) r (G - (i + m)), .slice (some ⟨g, i + 1, none⟩) r (c - (i + 1))]).run Try.prog ((W1.setCells gN i V).drew) = .ok (goInt r) (((W1.setCells gN i V).drew).setCells gN (i + m) D) := fun ty => by
  refine copy_bl hN2 (i + m) r (G - (i + m)) ⟨g, i + 1, none⟩ r (c - (i + 1)) D hDl (fun j u hj => ?_) HD1.out (Nat.le_refl _) (by simp only [List.length_append, List.length_take, List.length_drop]; omega) ty; rw [add_at]; show (W1.setCells gN i V).cell? ⟨g, i + 1 + j, none⟩ = some u; have e9 : (W1.setCells gN i V).cell? ⟨g, i + 1 + j, none⟩ = W1.cell? ⟨g, i + 1 + j, none⟩ := by
   unfold World.cell?; rw [setCells_far V i (w := W1) g (by omega)]
  rw [e9, hO1.cell, HDG.out j u hj]
 have hN3 := hN2.put (i + m) D (by simp only [List.length_append, List.length_take, List.length_drop]; omega); rw [puts_vl hVl hDl (by omega)] at hN3; obtain ⟨T, hT⟩ : ∃ T, T = (ROW.toList.take i ++ V ++ D) ++ ROW.toList.drop (i + m + r) := ⟨_, rfl⟩
 rw [← hT] at hN3; obtain ⟨hTl, hTt⟩ := two_copies (r := r) (LN := ROW.toList) (W0 := w0) (gN := g) (i := i) (m := m) (L := L) (l := l) (vs := vs) hl hvl hLt (by omega) hRt T (by rw [hT, HVD.out.1, HVD.out.2]); have hf : ReplPost w0 w (some g) (l.take i ++ vs ++ l.drop (i + 1)) (.returned (.slice (some ⟨gN, 0, none⟩) (i + (m + r)) G)) (((W1.setCells gN i V).drew).setCells gN (i + m) D) := by
  refine ⟨_, rfl, ?_, below_cells (below_drew (below_cells hB1 hbN _ _)) hbN _ _, fun k hlt hk => ?_⟩; rotate_left
  · have hk2 : k ≠ gN := by have h_ := hgN; rw [HWH.out] at h_; omega
    rw [setCells_far _ _ k hk2]; show (W1.setCells gN i V).heap[k]? = w.heap[k]?; rw [setCells_far _ _ k hk2, hW1]; exact (Below.heap_alloc W.drew _ k (by show k < W.heap.size; rw [HWH.out]; exact hlt)).trans (by show W.heap[k]? = w.heap[k]?; rw [HWH.out])
  have h3 := hN3.row (base := w0.heap.size) (ok := fun _ => True) hbN trivial (l.take i ++ vs ++ l.drop (i + 1)) (by omega) (by rw [HZL.out]; omega) hTt; rw [hTl, hRl, HZL.out, Nat.add_assoc] at h3; exact h3
 have h70 := cutL gN 0 (i + (m + r)) G (i : Int) i rfl (by omega) (by omega); have h78 := cutL gN 0 (i + (m + r)) G ((i : Int) + (m : Int)) (i + m) (by omega) (by omega) (by omega); rw [Nat.add_sub_cancel_left] at h70; rw [show i + (m + r) - (i + m) = r by omega] at h78; simp only [Nat.zero_add] at h70 h78; have HF := zA hf; have HC1 := zA hcp1; have HC2 := zA hcp2; have HRZ := zA hrz; clear hf hcp1 hcp2 hrz hW1 hgN hG hROW hRl hRt hN1 hO1 hB1 hN2 hN3 hT hTl hTt hi0 hz0 hzs hzb HL2 HB2 HV HVD HDG HD1; have hdf : (i : Int) + (m : Int) + (r : Int) - (i : Int) = (m : Int) + (r : Int) := by omega
 go_upto_region 12 with (((with_reducible refine gate_builtin (b := .append) (xs := #[.tmp 63, .tmp 66]) rfl ?_); at_builtin; refine wpList_append_at _ rfl _ _ _ _ rfl _ _ rfl rfl (HRZ.out _ _ (by omega)) ?_; rintro W9 rfl))
 go_upto_region 13 with (((with_reducible refine gate_builtin (b := .copy) (xs := #[.tmp 70, .tmp 71]) rfl ?_); refine wpList_copyR _ rfl _ _ _ _ rfl _ _ rfl rfl (HC1.out _) ?_))
 go_region_law_o (refine step_copyR rfl _ _ 37 37 rfl (.slice (some ⟨gN, i + m, none⟩) r (G - (i + m))) (.slice (some ⟨g, i + 1, none⟩) r (c - (i + 1))) (by simp [Act.eval, Act.put]) (by simp [Act.eval, Act.put]) (HC2.out _) ?_)
 go_wp2; go_ret; exact HF.out
end
theorem replace_one {i m cv : Nat} {l vs : List Int} {Av : Option Addr} {w0 w : World} {ok : Nat → Prop} (A : Option Addr) (c : Nat) (hi : i < l.length) (hn : l.length ≤ 100) (hm : m ≤ 100) (hB : Below w0.heap.size w0 w) (hR : Kd.R (Kd.int .i64) 3 w w0.heap.size ok (.slice A l.length c) l) (hv : Kd.C (Kd.int .i64) w0 Av m vs) :
 Calls Try.prog 76 #[.slice A l.length c, .int .i64 i, .int .i64 ((i : Int) + 1), .slice Av m cv] w (ReplPost w0 w (Value.slice A l.length c).ownBlock (l.take i ++ vs ++ l.drop (i + 1))) := by
 rcases R_ints hR with ⟨_, h0⟩ | ⟨g, cap, cur, ev, hok, hbg, hh, hnc, hcm, hcs, ht⟩
 · rw [h0] at hi; exact absurd hi (Nat.not_lt_zero _)
 · injection ev with eA en ec; subst eA; subst ec; have hL : BL w g cur.toList := ⟨cur, hh, rfl⟩
   have hLc : cur.toList.length = c := by rw [Array.length_toList, hcs, Nat.mul_one]
   obtain ⟨r, hr⟩ : ∃ r, l.length = i + 1 + r := ⟨l.length - (i + 1), by omega⟩
   have hvl := hv.1; by_cases hr0 : r = 0
   · subst hr0; have hd : l.drop (i + 1) = [] := List.drop_of_length_le (by omega); rw [hd, List.append_nil]; have hl : l.length = i + 1 := hr; by_cases hm0 : m = 0
     · subst hm0; obtain rfl : vs = [] := List.eq_nil_of_length_eq_zero hvl; rw [List.append_nil]; have h := repl_end0 (cv := cv) hl (by omega) (by omega) hcm hbg hB hL hLc ht hv; rw [← hl] at h; exact h
     · have h := repl_end (cv := cv) hl (by omega) (by omega) hm (by omega) hcm hbg hB hL hLc ht hv; rw [← hl] at h; exact h
   · by_cases hroom : i + m + r ≤ c
     · by_cases hm1 : m ≤ 1
       · have h := repl_easy (cv := cv) hr (by omega) (by omega) hm1 (by omega) hroom hcm hbg hB hL hLc ht hv; rw [← hr] at h; exact h
       · have h := repl_wide (cv := cv) hr (by omega) (by omega) (by omega) hm (by omega) hroom hcm hbg hB hL hLc ht hv; rw [← hr] at h; exact h
     · have h := repl_grow (cv := cv) hr (by omega) (by omega) hm (by omega) (by omega) hcm hbg hB hL hLc ht hv; rw [← hr] at h; exact h
structure Later (w : World) where
 v : World
 below : Below w.heap.size w v
instance (w : World) : Inhabited (Later w) := ⟨⟨w, Below.refl _ w⟩⟩
theorem wp_region_later {P : Program} {id : Nat} {Q : Exit → Act → World → Prop} {a : Act} {w : World} {l : List Oper} (hm : P.follows .mixedOrders = true) (hB : Region.lexB .any l.toArray = true)
 (h : wpQuiet P l.toArray (fun w' => ∃ p : Later w, w' = p.v) (fun a' => ∀ w', (∃ p : Later w, w' = p.v) → Q .normal a' w') l a) : (Code.region id l.toArray true).wp P Q a w :=
 wp_region_quiet (C := fun w' => ∃ p : Later w, w' = p.v) hm hB ⟨⟨w.drew, (Below.refl _ w).drew⟩, rfl⟩ (by simpa using h)
theorem Later.call {P : Program} {f : FuncId} {args : Array Value} {w : World} {p : Later w} {v : Value}
 (h : Calls P f args p.v fun e w' => e = .returned v ∧ Below p.v.heap.size p.v w') : Calls P f args p.v fun e w'' => e = .returned v ∧ ∃ p' : Later w, w'' = p'.v :=
 h.mono fun e w' ⟨he, hb⟩ => ⟨he, ⟨w', p.below.trans (hb.mono p.below.size)⟩, rfl⟩
theorem Later.cell {w : World} {a : Addr} {v : Value} (h : w.cell? a = some v) (p : Later w) : p.v.cell? a = some v := (p.below.cell (World.block_lt_of_cell? w _ h)).trans h
def stepC (mk : S87 → List Bool → Bool) (x : S87) (q : List Bool × Bool) : List Bool × Bool := if (!q.1.getD x.f0.toNat false && mk x q.1) = true then (q.1.set x.f0.toNat true, true) else q
def passC (mk : S87 → List Bool → Bool) (l : List S87) (q : List Bool × Bool) : List Bool × Bool := l.foldl (fun q x => stepC mk x q) q
def closeN (mk : S87 → List Bool → Bool) (l : List S87) : Nat → List Bool → List Bool
 | 0, s => s
 | n + 1, s => if (passC mk l (s, false)).2 = true then closeN mk l n (passC mk l (s, false)).1 else (passC mk l (s, false)).1
def closedF (mk : S87 → List Bool → Bool) (l : List S87) : List Bool := closeN mk l 7 [false, false, false, false, false, false]
def okR6 (x : S87) : Prop := (0 ≤ x.f0 ∧ x.f0 < 6) ∧ ∀ j : Nat, j < x.f1.length → rd x.f1 j < 6
def PredC (g : Nat) (lb : Array Value) (mk : S87 → List Bool → Bool) (w : World) : Prop :=
 ∀ (W : World) (x : S87) (A : Option Addr) (c : Nat) (b0 b1 b2 b3 b4 b5 : Bool), Below w.heap.size w W → x.f1.length ≤ c → Kd.C (Kd.int .i64) W A x.f1.length x.f1 → okR6 x →
  Calls Try.prog g (#[.agg #[.int .i64 x.f0, .slice A x.f1.length c], .agg #[.bool b0, .bool b1, .bool b2, .bool b3, .bool b4, .bool b5]] ++ lb) W fun e w' => e = .returned (.bool (mk x [b0, b1, b2, b3, b4, b5])) ∧ Below W.heap.size W w'
def cntF (s : List Bool) : Nat := s.count false
theorem goodG_ok {nons toks : Int} {l : List S87} (h : goodG nons toks l = true) (j : Nat) (hj : j < l.length) : okR nons toks (rd_T87 l j) = true := by
 have hr : rulesB nons toks l l.length = true := by
  unfold goodG at h; simp only [Bool.and_eq_true] at h; exact h.2.2.2
 cases hq : okR nons toks (rd_T87 l j) with
 | true => rfl
 | false => rw [rulesB_no nons toks l j l.length hj (.inl hq)] at hr; cases hr
theorem goodG_nons {nons toks : Int} {l : List S87} (h : goodG nons toks l = true) : (1 ≤ nons ∧ nons ≤ 6) ∧ (1 ≤ toks ∧ toks ≤ 4) ∧ l.length ≤ 16 := by
 unfold goodG at h; simp only [Bool.and_eq_true, decide_eq_true_eq] at h; exact ⟨h.1, h.2.1, h.2.2.1⟩
theorem okR_parts {nons toks : Int} {x : S87} (h1 : 1 ≤ nons) (h6 : nons ≤ 6) (h : okR nons toks x = true) : (0 ≤ x.f0 ∧ x.f0 < nons) ∧ x.f1.length ≤ 4 ∧ ∀ j : Nat, j < x.f1.length → wrap64 (-toks) ≤ rd x.f1 j ∧ rd x.f1 j < nons := by
 have hw : wrap64 (nons - 1) = nons - 1 := w64 (by omega) (by omega); unfold okR at h; simp only [Bool.and_eq_true, decide_eq_true_eq, Bool.not_eq_true', List.any_eq_false] at h; obtain ⟨⟨h2, h3⟩, h4⟩ := h; rw [hw] at h2; refine ⟨⟨h2.1, by omega⟩, h3, fun j hj => ?_⟩; have := h4 (rd x.f1 j) (by unfold rd; rw [List.getD_eq_getElem?_getD, Int.toNat_natCast, List.getElem?_eq_getElem hj]; exact List.getElem_mem hj); unfold symB at this; rw [hw] at this; simp at this; exact ⟨this.1, by omega⟩
def nulP (s : List Bool) (x : Int) : Bool := decide (x < 0) || !s.getD x.toNat false
def proP (s : List Bool) (x : Int) : Bool := decide (0 ≤ x) && !s.getD x.toNat false
def groP (s : List Bool) (x : Int) : Bool := decide (x < 0) || s.getD x.toNat false
def mkNul (r : S87) (s : List Bool) : Bool := !(r.f1.any (nulP s))
def mkPro (r : S87) (s : List Bool) : Bool := !(r.f1.any (proP s))
def mkGro (pr : List Bool) (r : S87) (s : List Bool) : Bool := !(r.f1.any (proP pr)) && r.f1.any (groP s)
def placesF : Nat → List Bool → List Int
 | _, [] => []
 | i, b :: s => if b = true then (i : Int) :: placesF (i + 1) s else placesF (i + 1) s
end Go.Proofs.Ytekoclhnfhbmeaa.P
