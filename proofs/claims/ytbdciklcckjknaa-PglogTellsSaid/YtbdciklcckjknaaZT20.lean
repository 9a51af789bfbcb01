/- Texts of this claim, merged by pack.py: B9 -/
import Derived.Test.YtbdciklcckjknaaZT18
import Derived.Test.YtbdciklcckjknaaZT04
import Derived.Test.YtbdciklcckjknaaZT19
import Derived.Test.YtbdciklcckjknaaZT05
namespace Go.Proofs.Ytbdciklcckjknaa.P
open Go.RowKit Go.Proofs.YtbdciklcckjknaaW.PrintWords Go.Proofs.YtbdciklcckjknaaW.PrintLast Go.Proofs.YtbdciklcckjknaaW.PrintMore Go.Proofs.YtbdciklcckjknaaW.HB
set_option linter.unusedVariables false
set_option linter.unusedSimpArgs false
attribute [local go_sem high] eqA24
def e0 : S34 := ⟨⟨1, 1⟩, ⟨1, 1, 1, ⟨4, ⟨#[97]⟩, 0, 0, ⟨#[]⟩⟩⟩, ⟨0, 0, 0, ⟨#[]⟩⟩⟩
theorem app0 : pglog_Append.f 40 [] 0 0 1 1 1 1 1 4 ⟨#[97]⟩ 0 0 ⟨#[]⟩ 0 0 0 ⟨#[]⟩ = some ([e0], 1, 1, true) := by kernel_rfl
theorem app1 : pglog_Append.f 40 [e0] 1 1 1 3 1 1 1 4 ⟨#[97]⟩ 0 0 ⟨#[]⟩ 0 0 0 ⟨#[]⟩ = some ([e0], 1, 1, false) := by kernel_rfl
theorem com0 : pglog_Common.f [e0] [e0] = some (1, 1, true) := by simp [pglog_Common.f, alikeB, pglog_alike.f, e0]
theorem nam0 : pglog_Names.f [e0] = some [⟨#[97]⟩] := by
  unfold pglog_Names.f
  rw [if_pos (by decide)]
  have e2 : ([[97]] : List (List UInt8)).mergeSort (fun x y => decide (x ≤ y)) = [[97]] := List.mergeSort_of_pairwise (by simp)
  have e1 : tl ([e0].map nmE) = [[97]] := rfl
  rw [e1, e2]
  rfl
theorem log0 : pglog_Log.f [e0] 1 1 = some true := by
  unfold pglog_Log.f
  kernel_rfl
def reeflaw21_awake.f : Option Bool := some true
set_option maxRecDepth 100000 in
set_option maxHeartbeats 8000000 in
theorem reeflaw21_awake.calls (r : Bool) (w : World) (h : reeflaw21_awake.f = some r) : Calls Try.prog 10 #[] w fun e w' => e = .returned (.bool r) ∧ Below w.heap.size w w' := by
  obtain rfl := Option.some.inj h
  clear h
  have hu := Try.underlying34
  have hu2 := Try.underlying24
  have B0 := Below.refl w.heap.size w
  have C0 := fun W : World => Kd.C_nil k34 W
  go_enter Try.func10, Try.ntmps10
  go_wp2_with (first
    | (go_at_call 8; refine (pglog_Append.calls 40 none 0 [] 0 0 1 1 1 1 1 4 ⟨#[97]⟩ 0 0 ⟨#[]⟩ 0 0 0 ⟨#[]⟩ [e0] 1 1 true _ (C0 _) (by decide) app0).mono ?_; rintro e w1 ⟨v, rfl, hQ, hW⟩; obtain ⟨A, c, rfl, hc, hC⟩ := Kd.Q_reads hQ; have L1 := Aside0.mk hc; have C1 := Aside0.mk hC; obtain ⟨x0, x1, x2, x3, x4, x5, x6, x7, x8, x9, x10, x11, x12, x13⟩ := (show XBox w1 w.heap.size e0 from (hW.block w.heap.size (by simp)).trans (World.alloc_heap_new w _)).cells; simp only [e0] at x0 x1 x2 x3 x4 x5 x6 x7 x8 x9 x10 x11 x12 x13; have z1 : w.heap.size < w1.heap.size := by { have := hW.size; simp at this; omega }; have B1 := Aside0.mk (below_step (below_alloc B0 _) hW); clear B0 C0 hW hQ hc hC)
    | (go_at_call 8; refine (pglog_Append.calls 40 A c [e0] 1 1 1 3 1 1 1 4 ⟨#[97]⟩ 0 0 ⟨#[]⟩ 0 0 0 ⟨#[]⟩ [e0] 1 1 false _ (Kd.C_alloc (Kd.C_alloc C1.out _) _) L1.out app1).mono ?_; rintro e w2 ⟨v, rfl, hQ, hW⟩; obtain ⟨A2, c2, rfl, hc2, hC2⟩ := Kd.Q_reads hQ; have C2 := Aside0.mk (Kd.C_below (Kd.C_alloc (Kd.C_alloc C1.out _) _) hW); have s0 : w2.cell? ⟨w.heap.size, 0, none⟩ = some (.int .i64 1) := (hW.cell (by simp; omega)).trans (by go_simp); have s1 : w2.cell? ⟨w.heap.size, 1, none⟩ = some (.int .i64 1) := (hW.cell (by simp; omega)).trans (by go_simp); have t0 : w2.cell? ⟨w1.heap.size, 0, none⟩ = some (.int .i64 1) := (hW.cell (by simp; omega)).trans (by go_simp); have t1 : w2.cell? ⟨w1.heap.size, 1, none⟩ = some (.int .i64 1) := (hW.cell (by simp; omega)).trans (by go_simp); have z2 : w1.heap.size < w2.heap.size := (by { have := hW.size; simp at this; omega }); have z3 : w.heap.size < w2.heap.size := (by omega); have B2 := Aside0.mk (below_step (below_alloc (below_alloc B1.out _) _) hW); clear C1 B1 hW hQ hc2 hC2 x0 x1 x2 x3 x4 x5 x6 x7 x8 x9 x10 x11 x12 x13)
    | (go_at_call 20; refine (pglog_Common.calls A c [e0] A c [e0] 1 1 true _ (Kd.C_alloc C2.out _) L1.out (Kd.C_alloc C2.out _) L1.out com0).mono ?_; rintro e w3 ⟨rfl, hW⟩; have C3 := Aside0.mk (Kd.C_below (Kd.C_alloc C2.out _) hW); have u0 : w3.cell? ⟨w.heap.size, 0, none⟩ = some (.int .i64 1) := (hW.cell (by simp; omega)).trans (by go_simp); have u1 : w3.cell? ⟨w.heap.size, 1, none⟩ = some (.int .i64 1) := (hW.cell (by simp; omega)).trans (by go_simp); have v0 : w3.cell? ⟨w1.heap.size, 0, none⟩ = some (.int .i64 1) := (hW.cell (by simp; omega)).trans (by go_simp); have v1 : w3.cell? ⟨w1.heap.size, 1, none⟩ = some (.int .i64 1) := (hW.cell (by simp; omega)).trans (by go_simp); have z4 : w2.heap.size < w3.heap.size := (by { have := hW.size; simp at this; omega }); have z5 : w.heap.size < w3.heap.size := (by omega); have z6 : w1.heap.size < w3.heap.size := (by omega); have B3 := Aside0.mk (below_step (below_alloc B2.out _) hW); clear C2 B2 hW s0 s1 t0 t1)
    | (go_at_call 18; refine (pglog_Names.calls A c [e0] [⟨#[97]⟩] _ (Kd.C_alloc C3.out _) L1.out nam0).mono ?_; rintro e w4 ⟨v, rfl, hR, hW⟩; obtain ⟨An, cn, rfl⟩ := Kd.R_slice hR; have C4 := Aside0.mk (Kd.C_below (Kd.C_alloc C3.out _) hW); have N4 := Aside0.mk (Kd.R_reads' hR).2.2; have i0 : w4.cell? ⟨w.heap.size, 0, none⟩ = some (.int .i64 1) := (hW.cell (by simp; omega)).trans (by go_simp); have i1 : w4.cell? ⟨w.heap.size, 1, none⟩ = some (.int .i64 1) := (hW.cell (by simp; omega)).trans (by go_simp); have j0 : w4.cell? ⟨w1.heap.size, 0, none⟩ = some (.int .i64 1) := (hW.cell (by simp; omega)).trans (by go_simp); have j1 : w4.cell? ⟨w1.heap.size, 1, none⟩ = some (.int .i64 1) := (hW.cell (by simp; omega)).trans (by go_simp); have o0 : w4.cell? ⟨w3.heap.size, 0, none⟩ = some (.int .i64 1) := (hW.cell (by simp)).trans (cell_fresh _ _ _ _ _ rfl); have o1 : w4.cell? ⟨w3.heap.size, 1, none⟩ = some (.int .i64 1) := (hW.cell (by simp)).trans (cell_fresh _ _ _ _ _ rfl); obtain ⟨ad, ea, e1, e2, e3, e4⟩ := Kd.C_get N4.out ⟨#[]⟩ 0 (by decide) (by decide); cases e1; have n0 : w4.cell? ad = some (.string ⟨#[97]⟩) := (by { have h5 := e4 0 (.string ⟨#[97]⟩) (by rw [show ea = [.string ⟨#[97]⟩] from e3]; rfl); rwa [show Int.toNat 0 * Kd.string.sz + 0 = 0 from rfl, show ad.add 0 = ad from by simp [Addr.add]] at h5 }); clear e2 e3 e4; have B4 := Aside0.mk (below_step (below_alloc B3.out _) hW); clear C3 B3 hW hR u0 u1 v0 v1)
    | (go_at_call 9; refine (pglog_Log.calls A c [e0] 1 1 true _ C4.out L1.out log0).mono ?_; rintro e w5 ⟨rfl, hW⟩; have B5 := Aside0.mk (below_step B4.out hW); clear hW))
  go_ret
  exact ⟨rfl, B5.out⟩
end Go.Proofs.Ytbdciklcckjknaa.P
