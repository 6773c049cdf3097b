/- Proved: for all arguments CellAt of the program returns what CellAt of the reference returns; it leaves its arguments as they were, and shares no memory. No condition. -/
import Derived.Test.YtkocahlifffgjaaQFnExactCellAtp0
import Derived.Test.YtkocahlifffgjaaQFnExactCellAtp1
import Derived.Test.YtkocahlifffgjaaWWords
import Derived.DataReads
import Derived.Deep.Slices
import Derived.Test.YtkocahlifffgjaaK0
import Derived.OpenShut
import Derived.Test.YtkocahlifffgjaaRows
import Derived.WalkKit
import Derived.ProofKit
import Derived.ShutString
import Derived.ChangeOld
import Derived.Below
import Derived.SizedLaws
/-! ZFnExactCellAt -/
/- The law of CellAt answers true, whatever came in. Written by wip/tools/lawgen.py of this session. -/
namespace Go.Proofs.Ytkocahlifffgjaa.P
open Go.RowKit Go.Proofs.YtkocahlifffgjaaW.PrintWords Go.Proofs.YtkocahlifffgjaaW.PrintLast Go.Proofs.YtkocahlifffgjaaW.PrintMore
set_option linter.unusedVariables false
set_option linter.unusedSimpArgs false
set_option maxHeartbeats 16000000 in
set_option maxRecDepth 100000 in
theorem holds_FnExactCellAt (w : World) (a0_0 : Int) (A0_1 : Option Addr) (c0_1 : Nat) (l0_1 : List (List Int)) (hr0_1 : Kd.C (Kd.slice 3 (Kd.int .i64)) w A0_1 l0_1.length l0_1) (hc0_1 : l0_1.length ≤ c0_1) (a1 : Int) (a2 : Int) :
    Calls Try.prog 10 #[.agg #[.int .i64 a0_0, .slice A0_1 l0_1.length c0_1], .int .i64 a1, .int .i64 a2] w fun e w' => e = .returned (.bool true) ∧ Below w.heap.size w w' := by
  have hu0 := Try.underlying49
  have hu1 := Try.underlying52
  have HB := Aside0.mk (Below.refl w.heap.size w)
  obtain ⟨hq0, hw0⟩ := reads_smallC hr0_1
  obtain ⟨t0, hze0, htl0, hsm0⟩ := szChart_from a0_0 l0_1 hq0 hw0 1048576 (by omega) (by omega)
  obtain ⟨kz0, hz0⟩ := hze0.rounds
  try dsimp only at hz0
  by_cases hT0 : t0 < 0
  · have dt_ : decide (t0 < 0) = true := decide_eq_true hT0
    clear hT0
    go_enter Try.func10, Try.ntmps10
    go_wp2_with fail
    refine (laws_szChart.calls kz0 a0_0 A0_1 c0_1 l0_1 1048576 t0 _ (Kd.C_below hr0_1 (by repeat (first | (with_reducible first | exact HB.out | apply below_alloc | apply pw_below_drewN | apply below_drew1) | exact HB.out))) hc0_1 hz0).mono ?_
    rintro e w0_ ⟨rfl, hb⟩
    have nB := Aside0.mk (below_step (by repeat (first | (with_reducible first | exact HB.out | apply below_alloc | apply pw_below_drewN | apply below_drew1) | exact HB.out)) hb)
    have BA0_ := Aside0.mk (blk_below (o := .cells #[.int .i64 a0_0, .slice A0_1 l0_1.length c0_1] 49 (0, 0)) (heap_alloc_new w _) hb)
    clear HB hb
    have HB := nB
    clear nB
    go_wp2
    go_ret
    exact ⟨rfl, by repeat (first | (with_reducible first | exact HB.out | apply below_alloc | apply pw_below_drewN | apply below_drew1) | exact HB.out)⟩
  have dt0 : decide (t0 < 0) = false := decide_eq_false hT0
  have hs0 := hsm0 (by omega)
  obtain ⟨kt0, ht0⟩ := (toChart_ev a0_0 l0_1 hs0).rounds
  obtain ⟨r0, r1, hr0, es, ei⟩ := pure_CellAt a0_0 l0_1 a1 a2 hs0
  obtain ⟨ks, hks⟩ := es.rounds
  obtain ⟨ki, hki⟩ := ei.rounds
  obtain ⟨ke0, hke0⟩ := (eqIntS_ev r0 (by omega)).rounds
  obtain ⟨kx0, hkx0⟩ := (eqChart_ev a0_0 l0_1 hs0.1 hs0.2).rounds
  have bx0 : (szRows l0_1 : Int) ≤ 1152921504606846 := by have := szRows_small l0_1 1048576 (fun r hr => by obtain ⟨i, hi, rfl⟩ := List.getElem_of_mem hr; have := hs0.2 i hi; unfold rd_L1 at this; rwa [Int.toNat_natCast, List.getD_eq_getElem?_getD, List.getElem?_eq_getElem hi] at this); have h1 := hs0.1; have h2 : l0_1.length * 1048576 ≤ 1048576 * 1048576 := Nat.mul_le_mul_right _ h1; omega
  have bl0 := hs0.1
  have br0 : (r0.length : Int) ≤ 1048576 := by omega
  try dsimp only at ht0 hks hki hke0 hkx0
  clear es ei
  clear hT0 hq0 hw0 hze0 hsm0 htl0
  have KEEP0 := Aside0.mk hs0
  clear hs0
  go_enter Try.func10, Try.ntmps10
  go_wp2_with fail
  refine (laws_szChart.calls kz0 a0_0 A0_1 c0_1 l0_1 1048576 t0 _ (Kd.C_below hr0_1 (by repeat (first | (with_reducible first | exact HB.out | apply below_alloc | apply pw_below_drewN | apply below_drew1) | exact HB.out))) hc0_1 hz0).mono ?_
  rintro e w1 ⟨rfl, hb⟩
  have HSZ := Aside0.mk (show w.heap.size + 1 ≤ w1.heap.size by have h_ := hb.size; (try simp at h_); omega)
  have nB := Aside0.mk (below_step (by repeat (first | (with_reducible first | exact HB.out | apply below_alloc | apply pw_below_drewN | apply below_drew1) | exact HB.out)) hb)
  have nBA0 := Aside0.mk (blk_below (o := .cells #[.int .i64 a0_0, .slice A0_1 l0_1.length c0_1] 49 (0, 0)) (heap_alloc_new w _) hb)
  clear HB 
  have HB := nB
  have BA0 := nBA0
  clear nB nBA0
  have Z1 := HSZ
  clear HSZ
  have cBA0_0 : w1.cell? ⟨w.heap.size, 0, none⟩ = some (.int .i64 a0_0) := (blk_cell BA0.out 0).trans rfl
  have cBA0_1 : w1.cell? ⟨w.heap.size, 1, none⟩ = some (.slice A0_1 l0_1.length c0_1) := (blk_cell BA0.out 1).trans rfl
  go_wp2_with fail
  clear cBA0_0 cBA0_1
  refine (laws_toChart.calls kt0 a0_0 A0_1 c0_1 l0_1 a0_0 l0_1 _ (Kd.C_below hr0_1 (by repeat (first | (with_reducible first | exact HB.out | apply below_alloc | apply pw_below_drewN | apply below_drew1) | exact HB.out))) hc0_1 ht0).mono ?_
  rintro e w2 ⟨v0, rfl, ho0, hb⟩
  obtain ⟨A102_0, c102_0, ev_⟩ := Kd.S_slice ho0
  subst ev_
  have NO2_0 := Aside0.mk (Kd.S_mono (ok' := fun q_ => w1.heap.size + 0 ≤ q_ ∧ q_ < w2.heap.size) (Kd.S_lower (Kd.S_bound ho0) (below_size (by repeat (first | (with_reducible first | exact HB.out | apply below_alloc | apply pw_below_drewN | apply below_drew1) | exact HB.out)))) (fun q_ h_ => ⟨by have h2_ := h_.2.1; (try simp at h2_); omega, h_.2.2.1⟩))
  clear ho0
  have HSZ := Aside0.mk (show w1.heap.size + 0 ≤ w2.heap.size by have h_ := hb.size; (try simp at h_); omega)
  have nB := Aside0.mk (below_step (by repeat (first | (with_reducible first | exact HB.out | apply below_alloc | apply pw_below_drewN | apply below_drew1) | exact HB.out)) hb)
  have nBA0 := Aside0.mk (blk_below (g := w.heap.size) (o := .cells #[.int .i64 a0_0, .slice A0_1 l0_1.length c0_1] 49 (0, 0)) (by (with_reducible repeat (first | refine blk_drewN ?_ _ | refine blk_drew ?_ | refine blk_alloc ?_ _)); exact BA0.out) hb)
  clear HB BA0
  have HB := nB
  have BA0 := nBA0
  clear nB nBA0
  have Z2 := HSZ
  clear HSZ
  have cBA0_0 : w2.cell? ⟨w.heap.size, 0, none⟩ = some (.int .i64 a0_0) := (blk_cell BA0.out 0).trans rfl
  have cBA0_1 : w2.cell? ⟨w.heap.size, 1, none⟩ = some (.slice A0_1 l0_1.length c0_1) := (blk_cell BA0.out 1).trans rfl
  have O2_0 := NO2_0
  clear NO2_0
  go_wp2_with fail
  clear cBA0_0 cBA0_1
  refine (spec_CellAt.calls ks a0_0 _ _ l0_1 a1 a2 r0 r1 _ (Kd.S_reads' (by (with_reducible repeat (first | apply Kd.S_alloc | apply Kd.S_drewN | apply Kd.S_drew)); exact O2_0.out)).2.2 (Kd.S_reads' O2_0.out).2.1 hks).mono ?_
  rintro e w3 ⟨v0, rfl, ho0, hb⟩
  obtain ⟨A103_0, c103_0, ev_⟩ := Kd.R_slice ho0
  subst ev_
  have NO3_0 := Aside0.mk (Kd.R_mono (ok' := fun q_ => w2.heap.size + 0 ≤ q_ ∧ q_ < w3.heap.size) (Kd.R_lower (Kd.R_bound ho0) (below_size (by repeat (first | (with_reducible first | exact HB.out | apply below_alloc | apply pw_below_drewN | apply below_drew1) | exact HB.out)))) (fun q_ h_ => ⟨by have h2_ := h_.2.1; (try simp at h2_); omega, h_.2.2.1⟩))
  clear ho0
  have HSZ := Aside0.mk (show w2.heap.size + 0 ≤ w3.heap.size by have h_ := hb.size; (try simp at h_); omega)
  have nB := Aside0.mk (below_step (by repeat (first | (with_reducible first | exact HB.out | apply below_alloc | apply pw_below_drewN | apply below_drew1) | exact HB.out)) hb)
  have nO2_0 := Aside0.mk (Kd.S_below (by (with_reducible repeat (first | apply Kd.S_alloc | apply Kd.S_drewN | apply Kd.S_drew)); exact O2_0.out) hb)
  have nBA0 := Aside0.mk (blk_below (g := w.heap.size) (o := .cells #[.int .i64 a0_0, .slice A0_1 l0_1.length c0_1] 49 (0, 0)) (by (with_reducible repeat (first | refine blk_drewN ?_ _ | refine blk_drew ?_ | refine blk_alloc ?_ _)); exact BA0.out) hb)
  clear HB O2_0 BA0
  have HB := nB
  have O2_0 := nO2_0
  have BA0 := nBA0
  clear nB nO2_0 nBA0
  have Z3 := HSZ
  clear HSZ
  have cBA0_0 : w3.cell? ⟨w.heap.size, 0, none⟩ = some (.int .i64 a0_0) := (blk_cell BA0.out 0).trans rfl
  have cBA0_1 : w3.cell? ⟨w.heap.size, 1, none⟩ = some (.slice A0_1 l0_1.length c0_1) := (blk_cell BA0.out 1).trans rfl
  have O3_0 := NO3_0
  clear NO3_0
  go_wp2_with fail
  clear cBA0_0 cBA0_1
  refine (laws_toChart.calls kt0 a0_0 A0_1 c0_1 l0_1 a0_0 l0_1 _ (Kd.C_below hr0_1 (by repeat (first | (with_reducible first | exact HB.out | apply below_alloc | apply pw_below_drewN | apply below_drew1) | exact HB.out))) hc0_1 ht0).mono ?_
  rintro e w4 ⟨v0, rfl, ho0, hb⟩
  obtain ⟨A104_0, c104_0, ev_⟩ := Kd.S_slice ho0
  subst ev_
  have NO4_0 := Aside0.mk (Kd.S_mono (ok' := fun q_ => w3.heap.size + 0 ≤ q_ ∧ q_ < w4.heap.size) (Kd.S_lower (Kd.S_bound ho0) (below_size (by repeat (first | (with_reducible first | exact HB.out | apply below_alloc | apply pw_below_drewN | apply below_drew1) | exact HB.out)))) (fun q_ h_ => ⟨by have h2_ := h_.2.1; (try simp at h2_); omega, h_.2.2.1⟩))
  clear ho0
  have HSZ := Aside0.mk (show w3.heap.size + 0 ≤ w4.heap.size by have h_ := hb.size; (try simp at h_); omega)
  have nB := Aside0.mk (below_step (by repeat (first | (with_reducible first | exact HB.out | apply below_alloc | apply pw_below_drewN | apply below_drew1) | exact HB.out)) hb)
  have nO3_0 := Aside0.mk (Kd.R_below (by (with_reducible repeat (first | apply Kd.R_alloc | apply Kd.R_drewN | apply Kd.R_drew)); exact O3_0.out) hb)
  have nBA0 := Aside0.mk (blk_below (g := w.heap.size) (o := .cells #[.int .i64 a0_0, .slice A0_1 l0_1.length c0_1] 49 (0, 0)) (by (with_reducible repeat (first | refine blk_drewN ?_ _ | refine blk_drew ?_ | refine blk_alloc ?_ _)); exact BA0.out) hb)
  clear HB O3_0 BA0
  have HB := nB
  have O3_0 := nO3_0
  have BA0 := nBA0
  clear nB nO3_0 nBA0
  have Z4 := HSZ
  clear HSZ
  have cBA0_0 : w4.cell? ⟨w.heap.size, 0, none⟩ = some (.int .i64 a0_0) := (blk_cell BA0.out 0).trans rfl
  have cBA0_1 : w4.cell? ⟨w.heap.size, 1, none⟩ = some (.slice A0_1 l0_1.length c0_1) := (blk_cell BA0.out 1).trans rfl
  have O4_0 := NO4_0
  clear NO4_0
  go_wp2_with fail
  clear cBA0_0 cBA0_1
  refine (impl_CellAt.calls ki a0_0 _ _ l0_1 a1 a2 r0 r1 _ (Kd.S_reads' (by (with_reducible repeat (first | apply Kd.S_alloc | apply Kd.S_drewN | apply Kd.S_drew)); exact O4_0.out)).2.2 (Kd.S_reads' O4_0.out).2.1 hki).mono ?_
  rintro e w5 ⟨v0, rfl, ho0, hb⟩
  obtain ⟨A105_0, c105_0, ev_⟩ := Kd.R_slice ho0
  subst ev_
  have NO5_0 := Aside0.mk (Kd.R_mono (ok' := fun q_ => w4.heap.size + 1 ≤ q_ ∧ q_ < w5.heap.size) (Kd.R_lower (Kd.R_bound ho0) (below_size (by repeat (first | (with_reducible first | exact HB.out | apply below_alloc | apply pw_below_drewN | apply below_drew1) | exact HB.out)))) (fun q_ h_ => ⟨by have h2_ := h_.2.1; (try simp at h2_); omega, h_.2.2.1⟩))
  clear ho0
  have HSZ := Aside0.mk (show w4.heap.size + 1 ≤ w5.heap.size by have h_ := hb.size; (try simp at h_); omega)
  have nB := Aside0.mk (below_step (by repeat (first | (with_reducible first | exact HB.out | apply below_alloc | apply pw_below_drewN | apply below_drew1) | exact HB.out)) hb)
  have nO3_0 := Aside0.mk (Kd.R_below (by (with_reducible repeat (first | apply Kd.R_alloc | apply Kd.R_drewN | apply Kd.R_drew)); exact O3_0.out) hb)
  have nO4_0 := Aside0.mk (Kd.S_below (by (with_reducible repeat (first | apply Kd.S_alloc | apply Kd.S_drewN | apply Kd.S_drew)); exact O4_0.out) hb)
  have nBA0 := Aside0.mk (blk_below (g := w.heap.size) (o := .cells #[.int .i64 a0_0, .slice A0_1 l0_1.length c0_1] 49 (0, 0)) (by (with_reducible repeat (first | refine blk_drewN ?_ _ | refine blk_drew ?_ | refine blk_alloc ?_ _)); exact BA0.out) hb)
  have nBX0 := Aside0.mk (blk_below (o := .cells #[.int .i64 a0_0, .slice A104_0 l0_1.length c104_0] 52 (0, 0)) (heap_alloc_new w4 _) hb)
  clear HB O3_0 O4_0 BA0
  have HB := nB
  have O3_0 := nO3_0
  have O4_0 := nO4_0
  have BA0 := nBA0
  have BX0 := nBX0
  clear nB nO3_0 nO4_0 nBA0 nBX0
  have Z5 := HSZ
  clear HSZ
  have cBA0_0 : w5.cell? ⟨w.heap.size, 0, none⟩ = some (.int .i64 a0_0) := (blk_cell BA0.out 0).trans rfl
  have cBA0_1 : w5.cell? ⟨w.heap.size, 1, none⟩ = some (.slice A0_1 l0_1.length c0_1) := (blk_cell BA0.out 1).trans rfl
  have cBX0_0 : w5.cell? ⟨w4.heap.size, 0, none⟩ = some (.int .i64 a0_0) := (blk_cell BX0.out 0).trans rfl
  have cBX0_1 : w5.cell? ⟨w4.heap.size, 1, none⟩ = some (.slice A104_0 l0_1.length c104_0) := (blk_cell BX0.out 1).trans rfl
  have O5_0 := NO5_0
  clear NO5_0
  go_wp2_with fail
  clear cBA0_0 cBA0_1 cBX0_0 cBX0_1
  refine (laws_eqIntS.calls ke0 _ _ r0 _ _ r0 true _ (Kd.R_reads' (by (with_reducible repeat (first | apply Kd.R_alloc | apply Kd.R_drewN | apply Kd.R_drew)); exact O5_0.out)).2.2 (Kd.R_reads' O5_0.out).2.1 (Kd.R_reads' (by (with_reducible repeat (first | apply Kd.R_alloc | apply Kd.R_drewN | apply Kd.R_drew)); exact O3_0.out)).2.2 (Kd.R_reads' O3_0.out).2.1 hke0).mono ?_
  rintro e w6 ⟨rfl, hd⟩
  have hb := drawn_below hd
  clear hd
  have HSZ := Aside0.mk (show w5.heap.size + 0 ≤ w6.heap.size by have h_ := hb.size; (try simp at h_); omega)
  have nB := Aside0.mk (below_step (by repeat (first | (with_reducible first | exact HB.out | apply below_alloc | apply pw_below_drewN | apply below_drew1) | exact HB.out)) hb)
  have nO3_0 := Aside0.mk (Kd.R_below (by (with_reducible repeat (first | apply Kd.R_alloc | apply Kd.R_drewN | apply Kd.R_drew)); exact O3_0.out) hb)
  have nO4_0 := Aside0.mk (Kd.S_below (by (with_reducible repeat (first | apply Kd.S_alloc | apply Kd.S_drewN | apply Kd.S_drew)); exact O4_0.out) hb)
  have nO5_0 := Aside0.mk (Kd.R_below (by (with_reducible repeat (first | apply Kd.R_alloc | apply Kd.R_drewN | apply Kd.R_drew)); exact O5_0.out) hb)
  have nBA0 := Aside0.mk (blk_below (g := w.heap.size) (o := .cells #[.int .i64 a0_0, .slice A0_1 l0_1.length c0_1] 49 (0, 0)) (by (with_reducible repeat (first | refine blk_drewN ?_ _ | refine blk_drew ?_ | refine blk_alloc ?_ _)); exact BA0.out) hb)
  have nBX0 := Aside0.mk (blk_below (g := w4.heap.size) (o := .cells #[.int .i64 a0_0, .slice A104_0 l0_1.length c104_0] 52 (0, 0)) (by (with_reducible repeat (first | refine blk_drewN ?_ _ | refine blk_drew ?_ | refine blk_alloc ?_ _)); exact BX0.out) hb)
  clear HB O3_0 O4_0 O5_0 BA0 BX0
  have HB := nB
  have O3_0 := nO3_0
  have O4_0 := nO4_0
  have O5_0 := nO5_0
  have BA0 := nBA0
  have BX0 := nBX0
  clear nB nO3_0 nO4_0 nO5_0 nBA0 nBX0
  have Z6 := HSZ
  clear HSZ
  have cBA0_0 : w6.cell? ⟨w.heap.size, 0, none⟩ = some (.int .i64 a0_0) := (blk_cell BA0.out 0).trans rfl
  have cBA0_1 : w6.cell? ⟨w.heap.size, 1, none⟩ = some (.slice A0_1 l0_1.length c0_1) := (blk_cell BA0.out 1).trans rfl
  have cBX0_0 : w6.cell? ⟨w4.heap.size, 0, none⟩ = some (.int .i64 a0_0) := (blk_cell BX0.out 0).trans rfl
  have cBX0_1 : w6.cell? ⟨w4.heap.size, 1, none⟩ = some (.slice A104_0 l0_1.length c104_0) := (blk_cell BX0.out 1).trans rfl
  go_wp2_with fail
  have nO3_0 := Aside0.mk (Kd.R_drew O3_0.out)
  have nO4_0 := Aside0.mk (Kd.S_drew O4_0.out)
  have nO5_0 := Aside0.mk (Kd.R_drew O5_0.out)
  have nBA0 := Aside0.mk (blk_drew BA0.out)
  have nBX0 := Aside0.mk (blk_drew BX0.out)
  have nB := Aside0.mk (below_drew1 HB.out)
  have HSZ := Aside0.mk (show w6.heap.size + 0 ≤ w6.drew.heap.size from Nat.le_refl _)
  clear cBA0_0 cBA0_1 cBX0_0 cBX0_1
  clear HB O3_0 O4_0 O5_0 BA0 BX0
  have HB := nB
  have O3_0 := nO3_0
  have O4_0 := nO4_0
  have O5_0 := nO5_0
  have BA0 := nBA0
  have BX0 := nBX0
  clear nB nO3_0 nO4_0 nO5_0 nBA0 nBX0
  refine start_ (n := 5) (S := fun w' => w'.cell? ⟨w4.heap.size, 0, none⟩ = some (.int .i64 a0_0) ∧ w'.cell? ⟨w4.heap.size, 1, none⟩ = some (.slice A104_0 l0_1.length c104_0) ∧ w'.cell? ⟨w.heap.size, 0, none⟩ = some (.int .i64 a0_0) ∧ w'.cell? ⟨w.heap.size, 1, none⟩ = some (.slice A0_1 l0_1.length c0_1)) (ds := []) #[false, false, false, false, false] (by kernel_rfl) rfl rfl ⟨(blk_cell BX0.out 0).trans rfl, (blk_cell BX0.out 1).trans rfl, (blk_cell BA0.out 0).trans rfl, (blk_cell BA0.out 1).trans rfl⟩ (fun hHeld => ?_)
  generalize w6.drew = w7 at O3_0 O4_0 O5_0 BA0 BX0 HB HSZ hHeld ⊢
  have Z7 := HSZ
  clear HSZ
  refine take_ (i := 0) (v := ?_) (a' := ?_) #[true, false, false, false, false] rfl rfl (by kernel_rfl) (fun _ _ _ h => h) (Or.inl ⟨by rfl, ?_⟩) hHeld ?_ ?_
  rotate_left
  · rintro w' ⟨s0, s1, s2, s3⟩
    go_simp
    with_reducible rfl
  rotate_left
  · simp only [Act.put, List.setIfInBounds_toArray, List.set_cons_zero, List.set_cons_succ, i64_w, i32_w]
    rfl
  refine take_ (i := 1) (v := ?_) (a' := ?_) #[true, true, false, false, false] rfl rfl (by kernel_rfl) (fun _ _ _ h => h) (Or.inl ⟨by rfl, ?_⟩) hHeld ?_ ?_
  rotate_left
  · rintro w' ⟨s0, s1, s2, s3⟩
    go_simp
    with_reducible rfl
  rotate_left
  · simp only [Act.put, List.setIfInBounds_toArray, List.set_cons_zero, List.set_cons_succ, i64_w, i32_w]
    rfl
  refine one_ (i := 2) #[true, true, true, false, false] rfl rfl (by kernel_rfl) (by decide) (fun K hK => ?_)
  refine goes_ Try.func39 (by kernel_rfl) rfl #[.agg #[.int .i64 a0_0, .slice A0_1 l0_1.length c0_1]] (by rfl) rfl rfl (by first | rfl | ((try simp only [List.map_toArray, List.map_cons, List.map_nil]); first | done | rfl)) ?_
  with_reducible refine (laws_toChart.calls kt0 a0_0 A0_1 c0_1 l0_1 a0_0 l0_1 _ (Kd.C_below hr0_1 (by repeat (first | (with_reducible first | exact HB.out | apply below_alloc | apply pw_below_drewN | apply below_drew1) | exact HB.out))) hc0_1 ht0).mono ?_
  rintro e w8 ⟨v0, rfl, ho0, hb⟩
  refine ⟨_, rfl, ?_⟩
  obtain ⟨A108_0, c108_0, ev_⟩ := Kd.S_slice ho0
  subst ev_
  have NO8_0 := Aside0.mk (Kd.S_mono (ok' := fun q_ => w7.heap.size + 0 ≤ q_ ∧ q_ < w8.heap.size) (Kd.S_lower (Kd.S_bound ho0) (below_size (by repeat (first | (with_reducible first | exact HB.out | apply below_alloc | apply pw_below_drewN | apply below_drew1) | exact HB.out)))) (fun q_ h_ => ⟨by have h2_ := h_.2.1; (try simp at h2_); omega, h_.2.2.1⟩))
  clear ho0
  have HSZ := Aside0.mk (show w7.heap.size + 0 ≤ w8.heap.size by have h_ := hb.size; (try simp at h_); omega)
  have nB := Aside0.mk (below_step (by repeat (first | (with_reducible first | exact HB.out | apply below_alloc | apply pw_below_drewN | apply below_drew1) | exact HB.out)) hb)
  have nO3_0 := Aside0.mk (Kd.R_below (by (with_reducible repeat (first | apply Kd.R_alloc | apply Kd.R_drewN | apply Kd.R_drew)); exact O3_0.out) hb)
  have nO4_0 := Aside0.mk (Kd.S_below (by (with_reducible repeat (first | apply Kd.S_alloc | apply Kd.S_drewN | apply Kd.S_drew)); exact O4_0.out) hb)
  have nO5_0 := Aside0.mk (Kd.R_below (by (with_reducible repeat (first | apply Kd.R_alloc | apply Kd.R_drewN | apply Kd.R_drew)); exact O5_0.out) hb)
  have nBA0 := Aside0.mk (blk_below (g := w.heap.size) (o := .cells #[.int .i64 a0_0, .slice A0_1 l0_1.length c0_1] 49 (0, 0)) (by (with_reducible repeat (first | refine blk_drewN ?_ _ | refine blk_drew ?_ | refine blk_alloc ?_ _)); exact BA0.out) hb)
  have nBX0 := Aside0.mk (blk_below (g := w4.heap.size) (o := .cells #[.int .i64 a0_0, .slice A104_0 l0_1.length c104_0] 52 (0, 0)) (by (with_reducible repeat (first | refine blk_drewN ?_ _ | refine blk_drew ?_ | refine blk_alloc ?_ _)); exact BX0.out) hb)
  clear HB O3_0 O4_0 O5_0 BA0 BX0
  have HB := nB
  have O3_0 := nO3_0
  have O4_0 := nO4_0
  have O5_0 := nO5_0
  have BA0 := nBA0
  have BX0 := nBX0
  clear nB nO3_0 nO4_0 nO5_0 nBA0 nBX0
  have Z8 := HSZ
  clear HSZ
  have cBA0_0 : w8.cell? ⟨w.heap.size, 0, none⟩ = some (.int .i64 a0_0) := (blk_cell BA0.out 0).trans rfl
  have cBA0_1 : w8.cell? ⟨w.heap.size, 1, none⟩ = some (.slice A0_1 l0_1.length c0_1) := (blk_cell BA0.out 1).trans rfl
  have cBX0_0 : w8.cell? ⟨w4.heap.size, 0, none⟩ = some (.int .i64 a0_0) := (blk_cell BX0.out 0).trans rfl
  have cBX0_1 : w8.cell? ⟨w4.heap.size, 1, none⟩ = some (.slice A104_0 l0_1.length c104_0) := (blk_cell BX0.out 1).trans rfl
  have O8_0 := NO8_0
  clear NO8_0
  clear cBA0_0 cBA0_1 cBX0_0 cBX0_1
  refine hK.out _ _ ⟨(blk_cell BX0.out 0).trans rfl, (blk_cell BX0.out 1).trans rfl, (blk_cell BA0.out 0).trans rfl, (blk_cell BA0.out 1).trans rfl⟩ (fun hHeld => ?_)
  clear hK K
  refine norm_ (a' := ?_) ?_ ?_
  rotate_left
  · show Act.put _ (some _) _ = _
    simp only [Act.put, List.setIfInBounds_toArray, List.set_cons_zero, List.set_cons_succ, i64_w, i32_w]
    rfl
  refine one_ (i := 3) #[true, true, true, true, false] rfl rfl (by kernel_rfl) (by decide) (fun K hK => ?_)
  refine goes_ Try.func41 (by kernel_rfl) rfl #[.agg #[.int .i64 a0_0, .slice A104_0 l0_1.length c104_0], .agg #[.int .i64 a0_0, .slice A108_0 l0_1.length c108_0]] (by rfl) rfl rfl (by first | rfl | ((try simp only [List.map_toArray, List.map_cons, List.map_nil]); first | done | rfl)) ?_
  with_reducible refine (laws_eqChart.calls kx0 a0_0 _ _ l0_1 a0_0 _ _ l0_1 true _ (Kd.S_reads' (by (with_reducible repeat (first | apply Kd.S_alloc | apply Kd.S_drewN | apply Kd.S_drew)); exact O4_0.out)).2.2 (Kd.S_reads' O4_0.out).2.1 (Kd.S_reads' (by (with_reducible repeat (first | apply Kd.S_alloc | apply Kd.S_drewN | apply Kd.S_drew)); exact O8_0.out)).2.2 (Kd.S_reads' O8_0.out).2.1 hkx0).mono ?_
  rintro e w9 ⟨rfl, hb⟩
  refine ⟨_, rfl, ?_⟩
  clear O8_0
  have HSZ := Aside0.mk (show w8.heap.size + 0 ≤ w9.heap.size by have h_ := hb.size; (try simp at h_); omega)
  have nB := Aside0.mk (below_step (by repeat (first | (with_reducible first | exact HB.out | apply below_alloc | apply pw_below_drewN | apply below_drew1) | exact HB.out)) hb)
  have nO3_0 := Aside0.mk (Kd.R_below (by (with_reducible repeat (first | apply Kd.R_alloc | apply Kd.R_drewN | apply Kd.R_drew)); exact O3_0.out) hb)
  have nO4_0 := Aside0.mk (Kd.S_below (by (with_reducible repeat (first | apply Kd.S_alloc | apply Kd.S_drewN | apply Kd.S_drew)); exact O4_0.out) hb)
  have nO5_0 := Aside0.mk (Kd.R_below (by (with_reducible repeat (first | apply Kd.R_alloc | apply Kd.R_drewN | apply Kd.R_drew)); exact O5_0.out) hb)
  have nBA0 := Aside0.mk (blk_below (g := w.heap.size) (o := .cells #[.int .i64 a0_0, .slice A0_1 l0_1.length c0_1] 49 (0, 0)) (by (with_reducible repeat (first | refine blk_drewN ?_ _ | refine blk_drew ?_ | refine blk_alloc ?_ _)); exact BA0.out) hb)
  have nBX0 := Aside0.mk (blk_below (g := w4.heap.size) (o := .cells #[.int .i64 a0_0, .slice A104_0 l0_1.length c104_0] 52 (0, 0)) (by (with_reducible repeat (first | refine blk_drewN ?_ _ | refine blk_drew ?_ | refine blk_alloc ?_ _)); exact BX0.out) hb)
  clear HB O3_0 O4_0 O5_0 BA0 BX0
  have HB := nB
  have O3_0 := nO3_0
  have O4_0 := nO4_0
  have O5_0 := nO5_0
  have BA0 := nBA0
  have BX0 := nBX0
  clear nB nO3_0 nO4_0 nO5_0 nBA0 nBX0
  have Z9 := HSZ
  clear HSZ
  have cBA0_0 : w9.cell? ⟨w.heap.size, 0, none⟩ = some (.int .i64 a0_0) := (blk_cell BA0.out 0).trans rfl
  have cBA0_1 : w9.cell? ⟨w.heap.size, 1, none⟩ = some (.slice A0_1 l0_1.length c0_1) := (blk_cell BA0.out 1).trans rfl
  have cBX0_0 : w9.cell? ⟨w4.heap.size, 0, none⟩ = some (.int .i64 a0_0) := (blk_cell BX0.out 0).trans rfl
  have cBX0_1 : w9.cell? ⟨w4.heap.size, 1, none⟩ = some (.slice A104_0 l0_1.length c104_0) := (blk_cell BX0.out 1).trans rfl
  clear cBA0_0 cBA0_1 cBX0_0 cBX0_1
  refine hK.out _ _ ⟨(blk_cell BX0.out 0).trans rfl, (blk_cell BX0.out 1).trans rfl, (blk_cell BA0.out 0).trans rfl, (blk_cell BA0.out 1).trans rfl⟩ (fun hHeld => ?_)
  clear hK K
  refine norm_ (a' := ?_) ?_ ?_
  rotate_left
  · show Act.put _ (some _) _ = _
    simp only [Act.put, List.setIfInBounds_toArray, List.set_cons_zero, List.set_cons_succ, i64_w, i32_w]
    rfl
  refine pure_ (i := 4) (v := ?_) (a' := ?_) #[true, true, true, true, true] rfl rfl (by kernel_rfl) (fun _ _ _ h => h) (Or.inl ⟨by rfl, ?_⟩) ?_ ?_
  rotate_left
  · intro w'
    go_simp
    with_reducible rfl
  rotate_left
  · simp only [Act.put, List.setIfInBounds_toArray, List.set_cons_zero, List.set_cons_succ, i64_w, i32_w]
    rfl
  refine done_ (by kernel_rfl) ?_
  clear hHeld
  have cBA0_0 : w9.cell? ⟨w.heap.size, 0, none⟩ = some (.int .i64 a0_0) := (blk_cell BA0.out 0).trans rfl
  have cBA0_1 : w9.cell? ⟨w.heap.size, 1, none⟩ = some (.slice A0_1 l0_1.length c0_1) := (blk_cell BA0.out 1).trans rfl
  have cBX0_0 : w9.cell? ⟨w4.heap.size, 0, none⟩ = some (.int .i64 a0_0) := (blk_cell BX0.out 0).trans rfl
  have cBX0_1 : w9.cell? ⟨w4.heap.size, 1, none⟩ = some (.slice A104_0 l0_1.length c104_0) := (blk_cell BX0.out 1).trans rfl
  obtain ⟨kk0, hkk0⟩ : ∃ z_ : Int, z_ = 1 + (szRows l0_1 : Int) := ⟨_, rfl⟩
  go_wp2_with fail
  clear cBA0_0 cBA0_1 cBX0_0 cBX0_1
  have CM := markChart_calls (fun q_ => w3.heap.size + 0 ≤ q_ ∧ q_ < w4.heap.size) a0_0 _ l0_1 (1) w _ (by repeat (first | (with_reducible first | exact HB.out | apply below_alloc | apply pw_below_drewN | apply below_drew1) | exact HB.out)) (by (with_reducible repeat (first | apply Kd.S_alloc | apply Kd.S_drewN | apply Kd.S_drew)); exact O4_0.out) (by omega) (by have := bx0; omega) (by omega)
  rw [← hkk0] at CM
  refine CM.mono ?_
  rintro e w10 ⟨rfl, ho, hB_, hK_⟩
  have NB := Aside0.mk hB_
  have NK := Aside0.mk hK_
  have NO := Aside0.mk ho
  clear ho hB_ hK_ CM
  have HSZ := Aside0.mk (show w9.heap.size + 0 ≤ w10.heap.size by have h_ := NK.out.1; (try simp at h_); omega)
  have nB := NB
  have nO3_0 := Aside0.mk (Kd.R_kept (by (with_reducible repeat (first | apply Kd.R_alloc | apply Kd.R_drewN | apply Kd.R_drew)); exact O3_0.out) NK.out (fun q_ h1_ h2_ => by have := Z1.out; have := Z2.out; have := Z3.out; have := Z4.out; have := Z5.out; have := Z6.out; have := Z7.out; have := Z8.out; have := Z9.out; omega))
  have nO5_0 := Aside0.mk (Kd.R_kept (by (with_reducible repeat (first | apply Kd.R_alloc | apply Kd.R_drewN | apply Kd.R_drew)); exact O5_0.out) NK.out (fun q_ h1_ h2_ => by have := Z1.out; have := Z2.out; have := Z3.out; have := Z4.out; have := Z5.out; have := Z6.out; have := Z7.out; have := Z8.out; have := Z9.out; omega))
  have nBA0 := Aside0.mk (blk_kept (g := w.heap.size) (o := .cells #[.int .i64 a0_0, .slice A0_1 l0_1.length c0_1] 49 (0, 0)) (by (with_reducible repeat (first | refine blk_drewN ?_ _ | refine blk_drew ?_ | refine blk_alloc ?_ _)); exact BA0.out) NK.out (fun h2_ => by have := Z1.out; have := Z2.out; have := Z3.out; have := Z4.out; have := Z5.out; have := Z6.out; have := Z7.out; have := Z8.out; have := Z9.out; omega))
  have nBX0 := Aside0.mk (blk_kept (g := w4.heap.size) (o := .cells #[.int .i64 a0_0, .slice A104_0 l0_1.length c104_0] 52 (0, 0)) (by (with_reducible repeat (first | refine blk_drewN ?_ _ | refine blk_drew ?_ | refine blk_alloc ?_ _)); exact BX0.out) NK.out (fun h2_ => by have := Z1.out; have := Z2.out; have := Z3.out; have := Z4.out; have := Z5.out; have := Z6.out; have := Z7.out; have := Z8.out; have := Z9.out; omega))
  clear HB O3_0 O5_0 BA0 BX0
  have HB := nB
  have O3_0 := nO3_0
  have O5_0 := nO5_0
  have BA0 := nBA0
  have BX0 := nBX0
  clear nB nO3_0 nO5_0 nBA0 nBX0
  have Z10 := HSZ
  clear HSZ
  have cBA0_0 : w10.cell? ⟨w.heap.size, 0, none⟩ = some (.int .i64 a0_0) := (blk_cell BA0.out 0).trans rfl
  have cBA0_1 : w10.cell? ⟨w.heap.size, 1, none⟩ = some (.slice A0_1 l0_1.length c0_1) := (blk_cell BA0.out 1).trans rfl
  have cBX0_0 : w10.cell? ⟨w4.heap.size, 0, none⟩ = some (.int .i64 a0_0) := (blk_cell BX0.out 0).trans rfl
  have cBX0_1 : w10.cell? ⟨w4.heap.size, 1, none⟩ = some (.slice A104_0 l0_1.length c104_0) := (blk_cell BX0.out 1).trans rfl
  clear O4_0
  have O4_0 := NO
  clear NO NK NB
  have dkk0 : decide (kk0 < 0) = false := decide_eq_false (by omega)
  have gkk0 : 0 ≤ kk0 := by omega
  have qkk0 : kk0 ≤ 1152921504606846976 := by have := bx0; omega
  have Skk0 := Aside0.mk hkk0
  clear hkk0
  clear O4_0
  go_wp2_with fail
  clear cBA0_0 cBA0_1
  refine (laws_eqIntS.calls ke0 _ _ r0 _ _ r0 true _ (Kd.R_reads' (by (with_reducible repeat (first | apply Kd.R_alloc | apply Kd.R_drewN | apply Kd.R_drew)); exact O5_0.out)).2.2 (Kd.R_reads' O5_0.out).2.1 (Kd.R_reads' (by (with_reducible repeat (first | apply Kd.R_alloc | apply Kd.R_drewN | apply Kd.R_drew)); exact O3_0.out)).2.2 (Kd.R_reads' O3_0.out).2.1 hke0).mono ?_
  rintro e w11 ⟨rfl, hd⟩
  have hb := drawn_below hd
  clear hd
  have HSZ := Aside0.mk (show w10.heap.size + 0 ≤ w11.heap.size by have h_ := hb.size; (try simp at h_); omega)
  have nB := Aside0.mk (below_step (by repeat (first | (with_reducible first | exact HB.out | apply below_alloc | apply pw_below_drewN | apply below_drew1) | exact HB.out)) hb)
  have nO3_0 := Aside0.mk (Kd.R_below (by (with_reducible repeat (first | apply Kd.R_alloc | apply Kd.R_drewN | apply Kd.R_drew)); exact O3_0.out) hb)
  have nO5_0 := Aside0.mk (Kd.R_below (by (with_reducible repeat (first | apply Kd.R_alloc | apply Kd.R_drewN | apply Kd.R_drew)); exact O5_0.out) hb)
  have nBA0 := Aside0.mk (blk_below (g := w.heap.size) (o := .cells #[.int .i64 a0_0, .slice A0_1 l0_1.length c0_1] 49 (0, 0)) (by (with_reducible repeat (first | refine blk_drewN ?_ _ | refine blk_drew ?_ | refine blk_alloc ?_ _)); exact BA0.out) hb)
  clear HB O3_0 O5_0 BA0
  have HB := nB
  have O3_0 := nO3_0
  have O5_0 := nO5_0
  have BA0 := nBA0
  clear nB nO3_0 nO5_0 nBA0
  have Z11 := HSZ
  clear HSZ
  have cBA0_0 : w11.cell? ⟨w.heap.size, 0, none⟩ = some (.int .i64 a0_0) := (blk_cell BA0.out 0).trans rfl
  have cBA0_1 : w11.cell? ⟨w.heap.size, 1, none⟩ = some (.slice A0_1 l0_1.length c0_1) := (blk_cell BA0.out 1).trans rfl
  obtain ⟨mm0, hmm0⟩ : ∃ z_ : Int, z_ = 1 + (r0.length : Int) := ⟨_, rfl⟩
  go_wp2_with fail
  clear cBA0_0 cBA0_1
  have CM := markIntS_calls (fun q_ => w4.heap.size + 1 ≤ q_ ∧ q_ < w5.heap.size) _ r0 (1) w _ (by repeat (first | (with_reducible first | exact HB.out | apply below_alloc | apply pw_below_drewN | apply below_drew1) | exact HB.out)) (by (with_reducible repeat (first | apply Kd.R_alloc | apply Kd.R_drewN | apply Kd.R_drew)); exact O5_0.out) (by omega) (by have := br0; omega)
  rw [← hmm0] at CM
  refine CM.mono ?_
  rintro e w12 ⟨rfl, ho, hB_, hK_⟩
  have NB := Aside0.mk hB_
  have NK := Aside0.mk hK_
  have NO := Aside0.mk ho
  clear ho hB_ hK_ CM
  have HSZ := Aside0.mk (show w11.heap.size + 0 ≤ w12.heap.size by have h_ := NK.out.1; (try simp at h_); omega)
  have nB := NB
  have nO3_0 := Aside0.mk (Kd.R_kept (by (with_reducible repeat (first | apply Kd.R_alloc | apply Kd.R_drewN | apply Kd.R_drew)); exact O3_0.out) NK.out (fun q_ h1_ h2_ => by have := Z1.out; have := Z2.out; have := Z3.out; have := Z4.out; have := Z5.out; have := Z6.out; have := Z7.out; have := Z8.out; have := Z9.out; have := Z10.out; have := Z11.out; omega))
  have nBA0 := Aside0.mk (blk_kept (g := w.heap.size) (o := .cells #[.int .i64 a0_0, .slice A0_1 l0_1.length c0_1] 49 (0, 0)) (by (with_reducible repeat (first | refine blk_drewN ?_ _ | refine blk_drew ?_ | refine blk_alloc ?_ _)); exact BA0.out) NK.out (fun h2_ => by have := Z1.out; have := Z2.out; have := Z3.out; have := Z4.out; have := Z5.out; have := Z6.out; have := Z7.out; have := Z8.out; have := Z9.out; have := Z10.out; have := Z11.out; omega))
  clear HB O3_0 BA0
  have HB := nB
  have O3_0 := nO3_0
  have BA0 := nBA0
  clear nB nO3_0 nBA0
  have Z12 := HSZ
  clear HSZ
  have cBA0_0 : w12.cell? ⟨w.heap.size, 0, none⟩ = some (.int .i64 a0_0) := (blk_cell BA0.out 0).trans rfl
  have cBA0_1 : w12.cell? ⟨w.heap.size, 1, none⟩ = some (.slice A0_1 l0_1.length c0_1) := (blk_cell BA0.out 1).trans rfl
  clear O5_0
  have O5_0 := NO
  clear NO NK NB
  have dmm0 : decide (mm0 < 0) = false := decide_eq_false (by omega)
  have gmm0 : 0 ≤ mm0 := by omega
  have qmm0 : mm0 ≤ 1152921504606846976 := by have := br0; omega
  have Smm0 := Aside0.mk hmm0
  clear hmm0
  go_wp2_with fail
  clear cBA0_0 cBA0_1
  have CH := fun A_ c_ w_ hr_ hc_ => heldIntS_calls  A_ c_ r0 (1) w_ hr_ hc_ (by omega) (by have := br0; omega)
  rw [← Smm0.out] at CH
  refine (CH _ _ _ (Kd.R_reads' (by (with_reducible repeat (first | apply Kd.R_alloc | apply Kd.R_drewN | apply Kd.R_drew)); exact O5_0.out)).2.2 (Kd.R_reads' O5_0.out).2.1).mono ?_
  rintro e w13 ⟨rfl, hb⟩
  clear CH
  have HSZ := Aside0.mk (show w12.heap.size + 0 ≤ w13.heap.size by have h_ := hb.size; (try simp at h_); omega)
  have nB := Aside0.mk (below_step (by repeat (first | (with_reducible first | exact HB.out | apply below_alloc | apply pw_below_drewN | apply below_drew1) | exact HB.out)) hb)
  have nO3_0 := Aside0.mk (Kd.R_below (by (with_reducible repeat (first | apply Kd.R_alloc | apply Kd.R_drewN | apply Kd.R_drew)); exact O3_0.out) hb)
  have nO5_0 := Aside0.mk (Kd.R_below (by (with_reducible repeat (first | apply Kd.R_alloc | apply Kd.R_drewN | apply Kd.R_drew)); exact O5_0.out) hb)
  have nBA0 := Aside0.mk (blk_below (g := w.heap.size) (o := .cells #[.int .i64 a0_0, .slice A0_1 l0_1.length c0_1] 49 (0, 0)) (by (with_reducible repeat (first | refine blk_drewN ?_ _ | refine blk_drew ?_ | refine blk_alloc ?_ _)); exact BA0.out) hb)
  clear HB O3_0 O5_0 BA0
  have HB := nB
  have O3_0 := nO3_0
  have O5_0 := nO5_0
  have BA0 := nBA0
  clear nB nO3_0 nO5_0 nBA0
  have Z13 := HSZ
  clear HSZ
  have cBA0_0 : w13.cell? ⟨w.heap.size, 0, none⟩ = some (.int .i64 a0_0) := (blk_cell BA0.out 0).trans rfl
  have cBA0_1 : w13.cell? ⟨w.heap.size, 1, none⟩ = some (.slice A0_1 l0_1.length c0_1) := (blk_cell BA0.out 1).trans rfl
  go_wp2_with fail
  clear cBA0_0 cBA0_1
  refine (laws_toChart.calls kt0 a0_0 A0_1 c0_1 l0_1 a0_0 l0_1 _ (Kd.C_below hr0_1 (by repeat (first | (with_reducible first | exact HB.out | apply below_alloc | apply pw_below_drewN | apply below_drew1) | exact HB.out))) hc0_1 ht0).mono ?_
  rintro e w14 ⟨v0, rfl, ho0, hb⟩
  obtain ⟨A114_0, c114_0, ev_⟩ := Kd.S_slice ho0
  subst ev_
  have NO14_0 := Aside0.mk (Kd.S_mono (ok' := fun q_ => w13.heap.size + 0 ≤ q_ ∧ q_ < w14.heap.size) (Kd.S_lower (Kd.S_bound ho0) (below_size (by repeat (first | (with_reducible first | exact HB.out | apply below_alloc | apply pw_below_drewN | apply below_drew1) | exact HB.out)))) (fun q_ h_ => ⟨by have h2_ := h_.2.1; (try simp at h2_); omega, h_.2.2.1⟩))
  clear ho0
  have HSZ := Aside0.mk (show w13.heap.size + 0 ≤ w14.heap.size by have h_ := hb.size; (try simp at h_); omega)
  have nB := Aside0.mk (below_step (by repeat (first | (with_reducible first | exact HB.out | apply below_alloc | apply pw_below_drewN | apply below_drew1) | exact HB.out)) hb)
  have nO3_0 := Aside0.mk (Kd.R_below (by (with_reducible repeat (first | apply Kd.R_alloc | apply Kd.R_drewN | apply Kd.R_drew)); exact O3_0.out) hb)
  have nO5_0 := Aside0.mk (Kd.R_below (by (with_reducible repeat (first | apply Kd.R_alloc | apply Kd.R_drewN | apply Kd.R_drew)); exact O5_0.out) hb)
  have nBA0 := Aside0.mk (blk_below (g := w.heap.size) (o := .cells #[.int .i64 a0_0, .slice A0_1 l0_1.length c0_1] 49 (0, 0)) (by (with_reducible repeat (first | refine blk_drewN ?_ _ | refine blk_drew ?_ | refine blk_alloc ?_ _)); exact BA0.out) hb)
  clear HB O3_0 O5_0 BA0
  have HB := nB
  have O3_0 := nO3_0
  have O5_0 := nO5_0
  have BA0 := nBA0
  clear nB nO3_0 nO5_0 nBA0
  have Z14 := HSZ
  clear HSZ
  have cBA0_0 : w14.cell? ⟨w.heap.size, 0, none⟩ = some (.int .i64 a0_0) := (blk_cell BA0.out 0).trans rfl
  have cBA0_1 : w14.cell? ⟨w.heap.size, 1, none⟩ = some (.slice A0_1 l0_1.length c0_1) := (blk_cell BA0.out 1).trans rfl
  have O14_0 := NO14_0
  clear NO14_0
  go_wp2_with fail
  clear cBA0_0 cBA0_1
  refine (impl_CellAt.calls ki a0_0 _ _ l0_1 a1 a2 r0 r1 _ (Kd.S_reads' (by (with_reducible repeat (first | apply Kd.S_alloc | apply Kd.S_drewN | apply Kd.S_drew)); exact O14_0.out)).2.2 (Kd.S_reads' O14_0.out).2.1 hki).mono ?_
  rintro e w15 ⟨v0, rfl, ho0, hb⟩
  obtain ⟨A115_0, c115_0, ev_⟩ := Kd.R_slice ho0
  subst ev_
  have NO15_0 := Aside0.mk (Kd.R_mono (ok' := fun q_ => w14.heap.size + 0 ≤ q_ ∧ q_ < w15.heap.size) (Kd.R_lower (Kd.R_bound ho0) (below_size (by repeat (first | (with_reducible first | exact HB.out | apply below_alloc | apply pw_below_drewN | apply below_drew1) | exact HB.out)))) (fun q_ h_ => ⟨by have h2_ := h_.2.1; (try simp at h2_); omega, h_.2.2.1⟩))
  clear ho0
  have HSZ := Aside0.mk (show w14.heap.size + 0 ≤ w15.heap.size by have h_ := hb.size; (try simp at h_); omega)
  have nB := Aside0.mk (below_step (by repeat (first | (with_reducible first | exact HB.out | apply below_alloc | apply pw_below_drewN | apply below_drew1) | exact HB.out)) hb)
  have nO3_0 := Aside0.mk (Kd.R_below (by (with_reducible repeat (first | apply Kd.R_alloc | apply Kd.R_drewN | apply Kd.R_drew)); exact O3_0.out) hb)
  have nO5_0 := Aside0.mk (Kd.R_below (by (with_reducible repeat (first | apply Kd.R_alloc | apply Kd.R_drewN | apply Kd.R_drew)); exact O5_0.out) hb)
  have nO14_0 := Aside0.mk (Kd.S_below (by (with_reducible repeat (first | apply Kd.S_alloc | apply Kd.S_drewN | apply Kd.S_drew)); exact O14_0.out) hb)
  have nBA0 := Aside0.mk (blk_below (g := w.heap.size) (o := .cells #[.int .i64 a0_0, .slice A0_1 l0_1.length c0_1] 49 (0, 0)) (by (with_reducible repeat (first | refine blk_drewN ?_ _ | refine blk_drew ?_ | refine blk_alloc ?_ _)); exact BA0.out) hb)
  clear HB O3_0 O5_0 O14_0 BA0
  have HB := nB
  have O3_0 := nO3_0
  have O5_0 := nO5_0
  have O14_0 := nO14_0
  have BA0 := nBA0
  clear nB nO3_0 nO5_0 nO14_0 nBA0
  have Z15 := HSZ
  clear HSZ
  have cBA0_0 : w15.cell? ⟨w.heap.size, 0, none⟩ = some (.int .i64 a0_0) := (blk_cell BA0.out 0).trans rfl
  have cBA0_1 : w15.cell? ⟨w.heap.size, 1, none⟩ = some (.slice A0_1 l0_1.length c0_1) := (blk_cell BA0.out 1).trans rfl
  have O15_0 := NO15_0
  clear NO15_0
  clear O14_0
  go_wp2_with fail
  clear cBA0_0 cBA0_1
  refine (laws_eqIntS.calls ke0 _ _ r0 _ _ r0 true _ (Kd.R_reads' (by (with_reducible repeat (first | apply Kd.R_alloc | apply Kd.R_drewN | apply Kd.R_drew)); exact O15_0.out)).2.2 (Kd.R_reads' O15_0.out).2.1 (Kd.R_reads' (by (with_reducible repeat (first | apply Kd.R_alloc | apply Kd.R_drewN | apply Kd.R_drew)); exact O3_0.out)).2.2 (Kd.R_reads' O3_0.out).2.1 hke0).mono ?_
  rintro e w16 ⟨rfl, hd⟩
  have hb := drawn_below hd
  clear hd
  have HSZ := Aside0.mk (show w15.heap.size + 0 ≤ w16.heap.size by have h_ := hb.size; (try simp at h_); omega)
  have nB := Aside0.mk (below_step (by repeat (first | (with_reducible first | exact HB.out | apply below_alloc | apply pw_below_drewN | apply below_drew1) | exact HB.out)) hb)
  have nO3_0 := Aside0.mk (Kd.R_below (by (with_reducible repeat (first | apply Kd.R_alloc | apply Kd.R_drewN | apply Kd.R_drew)); exact O3_0.out) hb)
  have nO5_0 := Aside0.mk (Kd.R_below (by (with_reducible repeat (first | apply Kd.R_alloc | apply Kd.R_drewN | apply Kd.R_drew)); exact O5_0.out) hb)
  have nO15_0 := Aside0.mk (Kd.R_below (by (with_reducible repeat (first | apply Kd.R_alloc | apply Kd.R_drewN | apply Kd.R_drew)); exact O15_0.out) hb)
  have nBA0 := Aside0.mk (blk_below (g := w.heap.size) (o := .cells #[.int .i64 a0_0, .slice A0_1 l0_1.length c0_1] 49 (0, 0)) (by (with_reducible repeat (first | refine blk_drewN ?_ _ | refine blk_drew ?_ | refine blk_alloc ?_ _)); exact BA0.out) hb)
  clear HB O3_0 O5_0 O15_0 BA0
  have HB := nB
  have O3_0 := nO3_0
  have O5_0 := nO5_0
  have O15_0 := nO15_0
  have BA0 := nBA0
  clear nB nO3_0 nO5_0 nO15_0 nBA0
  have Z16 := HSZ
  clear HSZ
  have cBA0_0 : w16.cell? ⟨w.heap.size, 0, none⟩ = some (.int .i64 a0_0) := (blk_cell BA0.out 0).trans rfl
  have cBA0_1 : w16.cell? ⟨w.heap.size, 1, none⟩ = some (.slice A0_1 l0_1.length c0_1) := (blk_cell BA0.out 1).trans rfl
  go_wp2_with fail
  clear cBA0_0 cBA0_1
  have CH := fun A_ c_ w_ hr_ hc_ => heldIntS_calls  A_ c_ r0 (1) w_ hr_ hc_ (by omega) (by have := br0; omega)
  rw [← Smm0.out] at CH
  refine (CH _ _ _ (Kd.R_reads' (by (with_reducible repeat (first | apply Kd.R_alloc | apply Kd.R_drewN | apply Kd.R_drew)); exact O5_0.out)).2.2 (Kd.R_reads' O5_0.out).2.1).mono ?_
  rintro e w17 ⟨rfl, hb⟩
  clear CH
  have HSZ := Aside0.mk (show w16.heap.size + 0 ≤ w17.heap.size by have h_ := hb.size; (try simp at h_); omega)
  have nB := Aside0.mk (below_step (by repeat (first | (with_reducible first | exact HB.out | apply below_alloc | apply pw_below_drewN | apply below_drew1) | exact HB.out)) hb)
  have nO3_0 := Aside0.mk (Kd.R_below (by (with_reducible repeat (first | apply Kd.R_alloc | apply Kd.R_drewN | apply Kd.R_drew)); exact O3_0.out) hb)
  have nO5_0 := Aside0.mk (Kd.R_below (by (with_reducible repeat (first | apply Kd.R_alloc | apply Kd.R_drewN | apply Kd.R_drew)); exact O5_0.out) hb)
  have nO15_0 := Aside0.mk (Kd.R_below (by (with_reducible repeat (first | apply Kd.R_alloc | apply Kd.R_drewN | apply Kd.R_drew)); exact O15_0.out) hb)
  have nBA0 := Aside0.mk (blk_below (g := w.heap.size) (o := .cells #[.int .i64 a0_0, .slice A0_1 l0_1.length c0_1] 49 (0, 0)) (by (with_reducible repeat (first | refine blk_drewN ?_ _ | refine blk_drew ?_ | refine blk_alloc ?_ _)); exact BA0.out) hb)
  clear HB O3_0 O5_0 O15_0 BA0
  have HB := nB
  have O3_0 := nO3_0
  have O5_0 := nO5_0
  have O15_0 := nO15_0
  have BA0 := nBA0
  clear nB nO3_0 nO5_0 nO15_0 nBA0
  have Z17 := HSZ
  clear HSZ
  have cBA0_0 : w17.cell? ⟨w.heap.size, 0, none⟩ = some (.int .i64 a0_0) := (blk_cell BA0.out 0).trans rfl
  have cBA0_1 : w17.cell? ⟨w.heap.size, 1, none⟩ = some (.slice A0_1 l0_1.length c0_1) := (blk_cell BA0.out 1).trans rfl
  go_wp2
  go_ret
  exact ⟨rfl, by repeat (first | (with_reducible first | exact HB.out | apply below_alloc | apply pw_below_drewN | apply below_drew1) | exact HB.out)⟩
end Go.Proofs.Ytkocahlifffgjaa.P

/-! Open -/
/- What came in, as the print reads it: out of the form's reading of an argument (DataW.trod) the facts 'Kd.K' and 'Kd.C', kind by kind. -/
namespace Go.Proofs.Ytkocahlifffgjaa.Open
open Go.RowKit Go.Proofs.YtkocahlifffgjaaW.PrintWords
section
variable {H : Type} {enc : TypeId × Value → H} {P : Program} {w : World}

/-- Whatever is read at type t is of kind d. -/
def Opens {α : Type} (enc : TypeId × Value → H) (P : Program) (w : World) (t : TypeId) (d : Kd α) : Prop :=
  ∀ (fuel : Nat) (cs : List Value) (x : DataW H × List MemPlace), DataW.trod enc P w 0 (fun _ => true) true fuel t cs = some x → ∃ y : α, d.K w y cs

theorem opens_int {t : TypeId} {k : IntKind} (ht : P.underlying t = some (.int k)) : Opens enc P w t (Kd.int k) := by
  intro fuel cs x h
  cases fuel with
  | zero => simp [DataW.trod] at h
  | succ fuel =>
    unfold DataW.trod at h
    rw [ht] at h
    split at h <;> first | (cases h; done) | skip
    all_goals first | (rename_i hh; cases hh; done) | skip
    all_goals try (rename_i k' n heq; cases heq)
    all_goals
      split at h
      · rename_i hk
        obtain ⟨rfl, _⟩ := hk
        exact ⟨_, rfl⟩
      · cases h

theorem each_mapM {α β : Type} {f : α → Option β} : ∀ {l : List α} {ys : List β}, l.mapM f = some ys → ∀ a ∈ l, ∃ y, f a = some y := by
  intro l
  induction l with
  | nil => intro ys _ a ha; cases ha
  | cons b l ih =>
    intro ys h a ha
    rw [List.mapM_cons] at h
    cases hb : f b with
    | none => rw [hb] at h; cases h
    | some z =>
      rw [hb] at h
      cases hl : l.mapM f with
      | none => rw [hl] at h; cases h
      | some zs =>
        rcases List.mem_cons.1 ha with rfl | ha
        · exact ⟨z, hb⟩
        · exact ih hl a ha

theorem opens_slice {α : Type} {t e : TypeId} {d : Kd α} (ht : P.underlying t = some (.slice e)) (hs : P.cellsOf e = d.sz) (hd : Opens enc P w e d) : Opens enc P w t (Kd.slice e d) := by
  intro fuel cs x h
  rcases Go.Deep.open_slice ht h with ⟨rfl, _⟩ | ⟨a, len, cap, m, n, D, Pl, rfl, hb, hl, hm, hmm, rfl, hx⟩
  · exact ⟨[], none, 0, rfl, Nat.le_refl _, rfl, Nat.zero_le _, fun h0 => absurd h0 (Nat.lt_irrefl _)⟩
  · simp only [if_true] at hmm
    subst hmm
    have each : ∀ i, i < len → ∃ y : α, ∃ c, c.length = d.sz ∧ d.K w y c ∧ ∀ j u, c[j]? = some u → w.cell? (a.add (i * d.sz + j)) = some u := by
      intro i hi
      obtain ⟨cs', h1, h2⟩ := hx i (by omega)
      obtain ⟨y, hy⟩ := hd _ _ _ h2
      obtain ⟨_, hlen, hc⟩ := World.cells?_some h1
      refine ⟨y, cs', d.K_len hy, hy, fun j u hu => ?_⟩
      have hj := (List.getElem?_eq_some_iff.1 hu).1
      have := hc j (by omega)
      rw [hu] at this
      rw [← this, hs]
      unfold Addr.add
      by_cases h0 : i * d.sz = 0 <;> by_cases h1 : j = 0 <;> simp [h0, h1, Nat.add_assoc]
    have pick : ∃ f : Nat → Option α, ∀ i, i < len → ∃ y, f i = some y ∧ ∃ c, c.length = d.sz ∧ d.K w y c ∧ ∀ j u, c[j]? = some u → w.cell? (a.add (i * d.sz + j)) = some u := by
      classical
      refine ⟨fun i => if hi : i < len then some (Classical.choose (each i hi)) else none, fun i hi => ⟨_, dif_pos hi, Classical.choose_spec (each i hi)⟩⟩
    obtain ⟨f, hf⟩ := pick
    refine ⟨(List.range len).filterMap f, some a, m, ?_, ?_, ?_⟩
    all_goals
      have hlen : ((List.range len).filterMap f).length = len ∧ ∀ j, j < len → ((List.range len).filterMap f)[j]? = f j := by
        have key : ∀ n, n ≤ len → ((List.range n).filterMap f).length = n ∧ ∀ j, j < n → ((List.range n).filterMap f)[j]? = f j := by
          intro n
          induction n with
          | zero => exact fun _ => ⟨rfl, fun j hj => absurd hj (Nat.not_lt_zero _)⟩
          | succ n ih =>
            intro hn
            obtain ⟨h1, h2⟩ := ih (by omega)
            obtain ⟨y, hy, _⟩ := hf n (by omega)
            have e : (List.range (n + 1)).filterMap f = (List.range n).filterMap f ++ [y] := by
              rw [List.range_succ, List.filterMap_append]; simp [hy]
            rw [e]
            refine ⟨by simp [h1], fun j hj => ?_⟩
            by_cases hj' : j < n
            · rw [List.getElem?_append_left (by omega)]; exact h2 j hj'
            · obtain rfl : j = n := by omega
              rw [List.getElem?_append_right (by omega), h1, hy]; simp
        exact key len (Nat.le_refl _)
    · rw [hlen.1]
    · rw [hlen.1]; exact hl
    · refine ⟨rfl, by rw [hlen.1]; simp only [maxLen] at hm; omega, fun _ => ⟨a, rfl, fun j p hj => ?_⟩⟩
      have hjl := (List.getElem?_eq_some_iff.1 hj).1
      rw [hlen.1] at hjl
      rw [hlen.2 j hjl] at hj
      obtain ⟨y, hy, c, h1, h2, h3⟩ := hf j hjl
      rw [hy] at hj
      injection hj with hj
      subst hj
      exact ⟨c, h1, h2, h3⟩

/-- A struct: each field is read at its place. -/
theorem open_struct {t : TypeId} {fs : Array Field} {fuel : Nat} {cs : List Value} {x : DataW H × List MemPlace} (ht : P.underlying t = some (.struct fs)) (h : DataW.trod enc P w 0 (fun _ => true) true fuel t cs = some x) :
    cs.length = P.cellsOf t ∧ ∃ fuel', ∀ f ∈ fs.toList, ∃ y, DataW.trod enc P w 0 (fun _ => true) true fuel' f.type ((cs.drop f.offset).take (P.cellsOf f.type)) = some y := by
  cases fuel with
  | zero => simp [DataW.trod] at h
  | succ fuel =>
    unfold DataW.trod at h
    rw [ht] at h
    simp only at h
    split at h
    · rename_i hl
      refine ⟨hl, fuel, fun f hf => ?_⟩
      cases hm : (fs.toList.mapM fun f => DataW.trod enc P w 0 (fun _ => true) true fuel f.type ((cs.drop f.offset).take (P.cellsOf f.type))) with
      | none => rw [hm] at h; cases h
      | some ys => exact each_mapM hm f hf
    · cases h
end
end Go.Proofs.Ytkocahlifffgjaa.Open

/-! OpenC -/
/- A chart that came in, as the print reads it. -/
namespace Go.Proofs.Ytkocahlifffgjaa.Open
open Go.RowKit Go.Proofs.YtkocahlifffgjaaW.PrintWords Go.Proofs.Ytkocahlifffgjaa.P Go.ChangeShapes Go.WideShapes
section
variable {H : Type} {enc : TypeId × Value → H} {w : World}

theorem cellsC_int : Try.prog.cellsOf 3 = 1 := by kernel_rfl
theorem cellsC_ints : Try.prog.cellsOf 23 = 1 := by kernel_rfl
theorem cellsC_rows : Try.prog.cellsOf 22 = 1 := by kernel_rfl
theorem cellsC_chart : Try.prog.cellsOf 49 = 2 := by kernel_rfl
theorem opensC_i : Opens enc Try.prog w 3 (Kd.int .i64) := opens_int Try.underlying3
theorem opensC_ints : Opens enc Try.prog w 23 (Kd.slice 3 (Kd.int .i64)) := opens_slice Try.underlying23 cellsC_int opensC_i
theorem opensC_rows : Opens enc Try.prog w 22 (Kd.slice 23 (Kd.slice 3 (Kd.int .i64))) := opens_slice Try.underlying22 cellsC_ints opensC_ints
set_option maxRecDepth 100000 in
/-- A chart, as an argument. -/
theorem open_chart {v : Value} {d : DataW H} {ps : List MemPlace} {r : Reach} {b0 : Nat} (hv : Value.okWide Try.prog w r b0 49 v) (h : DataW.Trod enc Try.prog w 0 (fun _ => true) true 49 v d ps) :
    ∃ (a0 : Int) (A : Option Addr) (c : Nat) (l : List (List Int)), v = .agg #[.int .i64 a0, .slice A l.length c] ∧ l.length ≤ c ∧ Kd.C (Kd.slice 3 (Kd.int .i64)) w A l.length l := by
  obtain ⟨cs, rfl, hsz⟩ := okWide_struct Try.underlying49 hv
  obtain ⟨fuel, h⟩ := h
  obtain ⟨hl, n, hf⟩ := open_struct Try.underlying49 h
  rw [cellsC_chart] at hl
  have h0 := hf _ List.mem_cons_self
  have h1 := hf _ (List.mem_cons_of_mem _ List.mem_cons_self)
  obtain ⟨L⟩ := cs
  match L, hl with
  | [c0, c1], _ =>
    obtain ⟨y0, h0⟩ := h0
    obtain ⟨y1, h1⟩ := h1
    simp only [cellsC_int, cellsC_rows] at h0 h1
    obtain ⟨i, hi⟩ := opensC_i n _ _ h0
    obtain ⟨l, A, c, hc, hlc, hC⟩ := opensC_rows n _ _ h1
    have e0 : c0 = .int .i64 i := (List.cons.inj (show [c0] = [(.int .i64 i : Value)] from hi)).1
    have e1 : c1 = .slice A l.length c := (List.cons.inj (show [c1] = [(.slice A l.length c : Value)] from hc)).1
    subst e0 e1
    exact ⟨i, A, c, l, rfl, hlc, hC⟩
end
end Go.Proofs.Ytkocahlifffgjaa.Open

/-! LawFnExactCellAt -/
/- Proved: for all arguments CellAt of the program returns what CellAt of the reference returns; it leaves its arguments as they were, and shares no memory. No condition. -/
namespace Go.Proofs.Ytkocahlifffgjaa.fnExactCellAt
open Go.ChangeShapes Go.WideShapes Go.ChangeAt Go.RowKit
open Go.ChangeMaps (open_string shut_string)
set_option linter.unusedVariables false
theorem own : ownKnob Try.prog.godebug = none := by kernel_rfl
theorem laidOut : laidOutB Try.prog = true := by kernel_rfl
set_option maxRecDepth 100000 in
theorem lifted (os : Os) (started : os.Started) (H : Type) (enc : TypeId × Value → H) :
    ReturnsInHanded {} Try.checked os 10 .any (Rows.fnExactCellAtSpec.pre6 enc Try.prog Try.f10 Rows.fnExactCellAtRow.domain false) (Rows.fnExactCellAtSpec.post enc Try.prog Try.f10 false true false false) := by
  refine returnsInHanded_of_change_sized (C := Try.checked) own started (by kernel_rfl) Try.func10
    (ChangeSpec.witness6 (enc := enc) (C := Try.checked) false ⟨#[], #[.agg #[.int .i64 0, .slice none 0 0], .int .i64 0, .int .i64 0], []⟩ 8 (by kernel_rfl) (by kernel_rfl) (by kernel_rfl) (by kernel_rfl)) ?_
  intro W base args ds gs before hval0 hW hcnd hsz0 _
  have hval : ∀ (j : Nat) t v, Try.f10.params[j]? = some t → args[j]? = some v → Value.okWide Try.prog W .any base t v := hval0
  have hW' := hW
  obtain ⟨p, q, hA0, hV, rfl, hfz, hnd⟩ := hW
  have hA : DataW.TrodAll enc Try.prog W 0 (fun _ => true) true Try.f10.params.toList args.toList ds p := hA0
  rw [Try.params10] at hA hval
  obtain ⟨v0, vs0, d0, ds0, p0, q0, hargs, rfl, rfl, h0, r0⟩ := trodAll_cons hA
  obtain ⟨v1, vs1, d1, ds1, p1, q1, rfl, rfl, rfl, h1, r1⟩ := trodAll_cons r0
  obtain ⟨v2, vs2, d2, ds2, p2, q2, rfl, rfl, rfl, h2, r2⟩ := trodAll_cons r1
  obtain ⟨rfl, rfl, rfl⟩ := trodAll_nil r2
  obtain rfl : args = #[v0, v1, v2] := by cases args; simp_all
  obtain ⟨rfl, rfl⟩ := trodVars_none hV
  have lt0 : ∀ x ∈ p0, x.block < W.heap.size := by obtain ⟨m, hm⟩ := h0; exact DataW.trod_lt m _ _ _ hm
  have k0 := h0
  obtain ⟨a0_0, A0_1, c0_1, l0_1, rfl, hc0_1, hr0_1⟩ := Open.open_chart (hval 0 49 v0 rfl rfl) h0
  obtain ⟨a1, rfl, rfl, rfl, w1⟩ := open_int Try.underlying3 (hval 1 3 v1 rfl rfl) h1
  obtain ⟨a2, rfl, rfl, rfl, w2⟩ := open_int Try.underlying3 (hval 2 3 v2 rfl rfl) h2
  clear hA0 hval0 hsz0
  refine (P.holds_FnExactCellAt W a0_0 A0_1 c0_1 l0_1 hr0_1 hc0_1 a1 a2).mono fun e W' ⟨he, bel⟩ => ?_
  subst he
  exact ⟨_, rfl, _, _, _, [], _, [], hW', trodAll_mk1 (shut_bool Try.underlying4 _), (trodAll_cons_mk (Below.trod laidOut (by kernel_rfl) (of_decide_eq_true (by kernel_rfl)) k0 bel lt0) (trodAll_cons_mk (shut_int Try.underlying3 w1) (trodAll_cons_mk (shut_int Try.underlying3 w2) trodAll_mk0))), rfl, bel.frame _, fun h => by cases h⟩
theorem over : Rows.fnExactCellAtRow.holds Try.pinned (OpenSpec.ofChange Rows.fnExactCellAtSpec) :=
  OpenClaim.holds_of_wide 10 Try.f10 rfl rfl rfl rfl rfl rfl rfl ⟨rfl, rfl, rfl, rfl, rfl⟩ rfl rfl rfl rfl rfl (by kernel_rfl) Try.func10 (by kernel_rfl)
    (of_decide_eq_true (by kernel_rfl)) (by unfold Func.isWrapper; first | (rw [if_pos (by decide +kernel)]; kernel_rfl) | (rw [if_neg (by decide +kernel)]; exact ⟨rfl, rfl⟩))
    (fun os started H enc _ => lifted os started H enc)
theorem proved : Rows.FnExactCellAtSaid := over
#print axioms proved
end Go.Proofs.Ytkocahlifffgjaa.fnExactCellAt
namespace Go.Proofs.Ytkocahlifffgjaa
/-- The row, under a short name, for the claim. -/
theorem fnExactCellAt_holds : Rows.FnExactCellAtSaid := fnExactCellAt.proved
end Go.Proofs.Ytkocahlifffgjaa

