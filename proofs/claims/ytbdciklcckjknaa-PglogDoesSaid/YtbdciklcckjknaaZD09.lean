/- Texts of this claim, merged by pack.py: G2 -/
import Derived.Test.YtbdciklcckjknaaZD01
namespace Go.Proofs.Ytbdciklcckjknaa.P
open Go.RowKit Go.Proofs.YtbdciklcckjknaaW.PrintWords Go.Proofs.YtbdciklcckjknaaW.PrintLast Go.Proofs.YtbdciklcckjknaaW.PrintMore Go.Proofs.YtbdciklcckjknaaW.HB
set_option linter.unusedVariables false
set_option linter.unusedSimpArgs false
set_option maxHeartbeats 1000000 in
theorem slices_IndexFunc_N.calls (fid : Nat) (caps : Array Value) (p : (S34) → Bool) (A0 : Option Addr) (c0 : Nat) (l0 : List (S34)) (w : World) (hr0 : Kd.C k34 w A0 l0.length l0) (hc0 : l0.length ≤ c0)
    (eg : ∀ args w, (callFunc fid args).run Try.prog w = .ok (.enter fid args) w)
    (hp : ∀ x ∈ l0, ∀ w1, Below w.heap.size w w1 → Calls Try.prog fid (#[.agg #[.int .i64 x.f0.f0, .int .i64 x.f0.f1, .int .i64 x.f1.f0, .int .i64 x.f1.f1, .int .i64 x.f1.f2, .int .i64 x.f1.f3.f0, .string x.f1.f3.f1, .int .i64 x.f1.f3.f2, .int .i64 x.f1.f3.f3, .string x.f1.f3.f4, .int .i64 x.f2.f0, .int .i64 x.f2.f1, .int .i64 x.f2.f2, .string x.f2.f3]] ++ caps) w1 fun e w' => e = .returned (.bool (p x)) ∧ Below w1.heap.size w1 w') :
    Calls Try.prog 55 #[.slice A0 l0.length c0, .func (.func fid) #[] caps] w fun e w' => e = .returned (.int .i64 (idxOf p l0)) ∧ Below w.heap.size w w' := by
  have hu := Try.underlying34
  have HR0 := Aside0.mk hr0
  have HC0 := Aside0.mk hc0
  have HP := Aside0.mk hp
  clear hr0 hc0 hp
  have HB := Aside0.mk (Below.refl w.heap.size w)
  go_enter Try.func55, Try.ntmps55
  go_wp2
  go_loopw [8] (fun v8 w' => ∃ i : Nat, v8 = .int .i64 i ∧ Aside0 (i ≤ l0.length ∧ ∀ j, (hj : j < l0.length) → j < i → p l0[j] = false) ∧ Aside0 (Below w.heap.size w w')) (fun v _ => l0.length - (intOf v).toNat)
  case atStart => exact ⟨0, rfl, ⟨by omega, by intros; omega⟩, HB⟩
  case round =>
    obtain ⟨i, rfl, HI, HB1⟩ := hrel
    clear HB
    have hlen := HR0.out.2.1
    by_cases hlt : i < l0.length
    · obtain ⟨ad, e1, hx0, hx1, hx2, hx3, hx4, hx5, hx6, hx7, hx8, hx9, hx10, hx11, hx12, hx13⟩ := at_T34 HR0.out i (by omega) (by omega)
      cases e1
      replace hx0 := (HB1.out.cell (World.block_lt_of_cell? w _ hx0)).trans hx0
      replace hx1 := (HB1.out.cell (World.block_lt_of_cell? w _ hx1)).trans hx1
      replace hx2 := (HB1.out.cell (World.block_lt_of_cell? w _ hx2)).trans hx2
      replace hx3 := (HB1.out.cell (World.block_lt_of_cell? w _ hx3)).trans hx3
      replace hx4 := (HB1.out.cell (World.block_lt_of_cell? w _ hx4)).trans hx4
      replace hx5 := (HB1.out.cell (World.block_lt_of_cell? w _ hx5)).trans hx5
      replace hx6 := (HB1.out.cell (World.block_lt_of_cell? w _ hx6)).trans hx6
      replace hx7 := (HB1.out.cell (World.block_lt_of_cell? w _ hx7)).trans hx7
      replace hx8 := (HB1.out.cell (World.block_lt_of_cell? w _ hx8)).trans hx8
      replace hx9 := (HB1.out.cell (World.block_lt_of_cell? w _ hx9)).trans hx9
      replace hx10 := (HB1.out.cell (World.block_lt_of_cell? w _ hx10)).trans hx10
      replace hx11 := (HB1.out.cell (World.block_lt_of_cell? w _ hx11)).trans hx11
      replace hx12 := (HB1.out.cell (World.block_lt_of_cell? w _ hx12)).trans hx12
      replace hx13 := (HB1.out.cell (World.block_lt_of_cell? w _ hx13)).trans hx13
      simp only [Int.toNat_natCast] at hx0 hx1 hx2 hx3 hx4 hx5 hx6 hx7 hx8 hx9 hx10 hx11 hx12 hx13
      have hrd := Aside0.mk (rd_at_N l0 i hlt)
      have hmem : rd_T34 l0 i ∈ l0 := by rw [hrd.out]; exact List.getElem_mem _
      have HCALL := Aside0.mk (HP.out (rd_T34 l0 i) hmem)
      clear hmem
      cases hpx : p (rd_T34 l0 i) with
      | true =>
        rw [hpx] at HCALL
        have HX := Aside0.mk hpx
        clear hpx
        go_wp2
        refine (HCALL.out _ HB1.out).mono ?_
        rintro e w2 ⟨rfl, hb2⟩
        have HB2 := Aside0.mk (below_then HB1.out HB1.out.size hb2)
        clear hb2
        go_wp2
        go_ret
        refine ⟨?_, HB2.out⟩
        rw [idxOf_hit p l0 i hlt (by rw [← hrd.out]; exact HX.out) (fun j hj h => HI.out.2 j hj h)]; rfl
      | false =>
        rw [hpx] at HCALL
        have HX := Aside0.mk hpx
        clear hpx
        go_wp2
        refine (HCALL.out _ HB1.out).mono ?_
        rintro e w2 ⟨rfl, hb2⟩
        have HB2 := Aside0.mk (below_then HB1.out HB1.out.size hb2)
        clear hb2
        go_wp2
        go_roundw
        case rel =>
          refine ⟨i + 1, by go_num, ⟨by omega, fun j hj h => ?_⟩, HB2⟩
          rcases Nat.lt_succ_iff_lt_or_eq.1 h with h | rfl
          · exact HI.out.2 j hj h
          · rw [← hrd.out]; exact HX.out
        case measure => simp [intOf]; omega
    · go_wp2
      go_ret
      refine ⟨?_, HB1.out⟩
      rw [idxOf_none p l0 (fun j hj => HI.out.2 j hj (by omega))]; rfl
set_option maxHeartbeats 2000000 in
theorem slices_DeleteFunc_N.calls (fid : Nat) (caps : Array Value) (p : (S34) → Bool) (g n cap : Nat) (base : Nat) (ok : Nat → Prop) (l0 : List (S34)) (w : World)
    (ho : Kd.R k34 34 w base ok (.slice (some ⟨g, 0, none⟩) n cap) l0)
    (eg : ∀ args w, (callFunc fid args).run Try.prog w = .ok (.enter fid args) w)
    (hp : ∀ x ∈ l0, ∀ w1, w.grownBy w1 (some g) → Calls Try.prog fid (#[.agg #[.int .i64 x.f0.f0, .int .i64 x.f0.f1, .int .i64 x.f1.f0, .int .i64 x.f1.f1, .int .i64 x.f1.f2, .int .i64 x.f1.f3.f0, .string x.f1.f3.f1, .int .i64 x.f1.f3.f2, .int .i64 x.f1.f3.f3, .string x.f1.f3.f4, .int .i64 x.f2.f0, .int .i64 x.f2.f1, .int .i64 x.f2.f2, .string x.f2.f3]] ++ caps) w1 fun e w' => e = .returned (.bool (p x)) ∧ Below w1.heap.size w1 w') :
    Calls Try.prog 31 #[.slice (some ⟨g, 0, none⟩) n cap, .func (.func fid) #[] caps] w fun e w' => ∃ m, e = .returned (.slice (some ⟨g, 0, none⟩) m cap) ∧ Kd.R k34 34 w' base ok (.slice (some ⟨g, 0, none⟩) m cap) (l0.filter (fun x => !p x)) ∧ w.grownBy w' (some g) := by
  have hu := Try.underlying34
  obtain ⟨hn, hnc, hC⟩ := Kd.R_reads' ho
  subst hn
  have HO := Aside0.mk ho
  have HC := Aside0.mk hC
  have HP := Aside0.mk hp
  have HNC := Aside0.mk hnc
  have hlen := hC.2.1
  clear ho hC hp
  rcases idxOf_cases p l0 with ⟨hi, hall⟩ | ⟨i0, hi, hi1, hi2, hi3⟩
  · have HI := Aside0.mk hi
    have HA := Aside0.mk hall
    clear hi hall
    go_enter Try.func31, Try.ntmps31
    go_wp2_with (first | (go_at_call 55; refine (slices_IndexFunc_N.calls fid caps p (some ⟨g, 0, none⟩) cap l0 _ HC.out HNC.out eg (fun x hx w1 hb => HP.out x hx w1 (grown_of_below hb _))).mono ?_; rintro e w1 ⟨rfl, hb⟩; rw [HI.out]; have HB1 := Aside0.mk hb; clear hb))
    go_ret
    refine ⟨_, rfl, ?_, grown_of_below HB1.out _⟩
    rw [filter_all p l0 HA.out]
    exact Kd.R_below HO.out HB1.out
  · have HI := Aside0.mk hi
    have HX := Aside0.mk hi2
    have HA := Aside0.mk hi3
    have hne : ((i0 : Int) == -1) = false := by rw [beq_eq_false_iff_ne]; omega
    clear hi hi2 hi3
    go_enter Try.func31, Try.ntmps31
    go_wp2_with (first | (go_at_call 55; refine (slices_IndexFunc_N.calls fid caps p (some ⟨g, 0, none⟩) cap l0 _ HC.out HNC.out eg (fun x hx w1 hb => HP.out x hx w1 (grown_of_below hb _))).mono ?_; rintro e w1 ⟨rfl, hb⟩; rw [HI.out]; have HB1 := Aside0.mk hb; clear hb))
    go_loopw [5, 6] (fun v5 v6 w' => ∃ (i j : Nat) (xs : List (S34)), v5 = .int .i64 i ∧ v6 = .int .i64 j ∧ Aside0 (i < j ∧ j ≤ l0.length ∧ xs.length = l0.length ∧ xs.take i = (l0.take j).filter (fun x => !p x) ∧ xs.drop j = l0.drop j) ∧ Aside0 (Kd.R k34 34 w' base ok (.slice (some ⟨g, 0, none⟩) l0.length cap) xs) ∧ Aside0 (w.grownBy w' (some g))) (fun _ v _ => l0.length - (intOf v).toNat)
    case atStart =>
      refine ⟨i0, i0 + 1, l0, rfl, by go_num, ⟨by omega, by omega, rfl, ?_, rfl⟩, ⟨Kd.R_below HO.out HB1.out⟩, ⟨grown_of_below HB1.out _⟩⟩
      rw [filter_take_step p l0 i0 hi1, HX.out]
      simp [filter_take_none p l0 i0 HA.out]
    case round =>
      obtain ⟨i, j, xs, rfl, rfl, HJ, HO1, HG1⟩ := hrel
      clear HO HC HB1 HA HX HI hi1
      by_cases hlt : j < l0.length
      · obtain ⟨ce, hcl, hM, hcc, hfr⟩ := Kd.R_elem HO1.out z34 j (by omega) (by omega)
        obtain rfl := k34_openM hM
        have hx0 : wr.cell? ⟨g, j * 14, none⟩ = some (.int .i64 (rd_T34 xs j).f0.f0) := hcc 0 _ rfl
        have hx1 : wr.cell? ⟨g, j * 14 + 1, none⟩ = some (.int .i64 (rd_T34 xs j).f0.f1) := hcc 1 _ rfl
        have hx2 : wr.cell? ⟨g, j * 14 + 2, none⟩ = some (.int .i64 (rd_T34 xs j).f1.f0) := hcc 2 _ rfl
        have hx3 : wr.cell? ⟨g, j * 14 + 3, none⟩ = some (.int .i64 (rd_T34 xs j).f1.f1) := hcc 3 _ rfl
        have hx4 : wr.cell? ⟨g, j * 14 + 4, none⟩ = some (.int .i64 (rd_T34 xs j).f1.f2) := hcc 4 _ rfl
        have hx5 : wr.cell? ⟨g, j * 14 + 5, none⟩ = some (.int .i64 (rd_T34 xs j).f1.f3.f0) := hcc 5 _ rfl
        have hx6 : wr.cell? ⟨g, j * 14 + 6, none⟩ = some (.string (rd_T34 xs j).f1.f3.f1) := hcc 6 _ rfl
        have hx7 : wr.cell? ⟨g, j * 14 + 7, none⟩ = some (.int .i64 (rd_T34 xs j).f1.f3.f2) := hcc 7 _ rfl
        have hx8 : wr.cell? ⟨g, j * 14 + 8, none⟩ = some (.int .i64 (rd_T34 xs j).f1.f3.f3) := hcc 8 _ rfl
        have hx9 : wr.cell? ⟨g, j * 14 + 9, none⟩ = some (.string (rd_T34 xs j).f1.f3.f4) := hcc 9 _ rfl
        have hx10 : wr.cell? ⟨g, j * 14 + 10, none⟩ = some (.int .i64 (rd_T34 xs j).f2.f0) := hcc 10 _ rfl
        have hx11 : wr.cell? ⟨g, j * 14 + 11, none⟩ = some (.int .i64 (rd_T34 xs j).f2.f1) := hcc 11 _ rfl
        have hx12 : wr.cell? ⟨g, j * 14 + 12, none⟩ = some (.int .i64 (rd_T34 xs j).f2.f2) := hcc 12 _ rfl
        have hx13 : wr.cell? ⟨g, j * 14 + 13, none⟩ = some (.string (rd_T34 xs j).f2.f3) := hcc 13 _ rfl
        clear hcl hM hcc hfr
        have hrd := Aside0.mk (show rd_T34 xs j = l0[j] from by
          have h5 := HJ.out.2.2.2.2
          have h3 := HJ.out.2.2.1
          rw [rd_at_N xs j (by omega)]
          have : (xs.drop j)[0]? = (l0.drop j)[0]? := by rw [h5]
          simpa [List.getElem?_drop, List.getElem?_eq_getElem hlt, List.getElem?_eq_getElem (show j < xs.length by omega)] using this)
        have hin : i < l0.length := by have := HJ.out; omega
        have HCALL := Aside0.mk (HP.out (rd_T34 xs j) (by rw [hrd.out]; exact List.getElem_mem _))
        obtain ⟨ce2, hcl2, hM2, hcc2, hfr2⟩ := Kd.R_elem HO1.out z34 i (by omega) (by have := HJ.out; omega)
        obtain rfl := k34_openM hM2
        have hy0 : wr.cell? ⟨g, i * 14, none⟩ = some (.int .i64 (rd_T34 xs i).f0.f0) := hcc2 0 _ rfl
        have hy1 : wr.cell? ⟨g, i * 14 + 1, none⟩ = some (.int .i64 (rd_T34 xs i).f0.f1) := hcc2 1 _ rfl
        have hy2 : wr.cell? ⟨g, i * 14 + 2, none⟩ = some (.int .i64 (rd_T34 xs i).f1.f0) := hcc2 2 _ rfl
        have hy3 : wr.cell? ⟨g, i * 14 + 3, none⟩ = some (.int .i64 (rd_T34 xs i).f1.f1) := hcc2 3 _ rfl
        have hy4 : wr.cell? ⟨g, i * 14 + 4, none⟩ = some (.int .i64 (rd_T34 xs i).f1.f2) := hcc2 4 _ rfl
        have hy5 : wr.cell? ⟨g, i * 14 + 5, none⟩ = some (.int .i64 (rd_T34 xs i).f1.f3.f0) := hcc2 5 _ rfl
        have hy6 : wr.cell? ⟨g, i * 14 + 6, none⟩ = some (.string (rd_T34 xs i).f1.f3.f1) := hcc2 6 _ rfl
        have hy7 : wr.cell? ⟨g, i * 14 + 7, none⟩ = some (.int .i64 (rd_T34 xs i).f1.f3.f2) := hcc2 7 _ rfl
        have hy8 : wr.cell? ⟨g, i * 14 + 8, none⟩ = some (.int .i64 (rd_T34 xs i).f1.f3.f3) := hcc2 8 _ rfl
        have hy9 : wr.cell? ⟨g, i * 14 + 9, none⟩ = some (.string (rd_T34 xs i).f1.f3.f4) := hcc2 9 _ rfl
        have hy10 : wr.cell? ⟨g, i * 14 + 10, none⟩ = some (.int .i64 (rd_T34 xs i).f2.f0) := hcc2 10 _ rfl
        have hy11 : wr.cell? ⟨g, i * 14 + 11, none⟩ = some (.int .i64 (rd_T34 xs i).f2.f1) := hcc2 11 _ rfl
        have hy12 : wr.cell? ⟨g, i * 14 + 12, none⟩ = some (.int .i64 (rd_T34 xs i).f2.f2) := hcc2 12 _ rfl
        have hy13 : wr.cell? ⟨g, i * 14 + 13, none⟩ = some (.string (rd_T34 xs i).f2.f3) := hcc2 13 _ rfl
        have hz0 : wr.frozen? ⟨g, i * 14, none⟩ = false := hfr2 0
        have hz1 : wr.frozen? ⟨g, i * 14 + 1, none⟩ = false := hfr2 1
        have hz2 : wr.frozen? ⟨g, i * 14 + 2, none⟩ = false := hfr2 2
        have hz3 : wr.frozen? ⟨g, i * 14 + 3, none⟩ = false := hfr2 3
        have hz4 : wr.frozen? ⟨g, i * 14 + 4, none⟩ = false := hfr2 4
        have hz5 : wr.frozen? ⟨g, i * 14 + 5, none⟩ = false := hfr2 5
        have hz6 : wr.frozen? ⟨g, i * 14 + 6, none⟩ = false := hfr2 6
        have hz7 : wr.frozen? ⟨g, i * 14 + 7, none⟩ = false := hfr2 7
        have hz8 : wr.frozen? ⟨g, i * 14 + 8, none⟩ = false := hfr2 8
        have hz9 : wr.frozen? ⟨g, i * 14 + 9, none⟩ = false := hfr2 9
        have hz10 : wr.frozen? ⟨g, i * 14 + 10, none⟩ = false := hfr2 10
        have hz11 : wr.frozen? ⟨g, i * 14 + 11, none⟩ = false := hfr2 11
        have hz12 : wr.frozen? ⟨g, i * 14 + 12, none⟩ = false := hfr2 12
        have hz13 : wr.frozen? ⟨g, i * 14 + 13, none⟩ = false := hfr2 13
        clear hcl2 hM2 hcc2 hfr2
        have HWA := Aside0.mk (World.grownBy_alloc wr (.cells #[.int .i64 (rd_T34 xs j).f0.f0, .int .i64 (rd_T34 xs j).f0.f1, .int .i64 (rd_T34 xs j).f1.f0, .int .i64 (rd_T34 xs j).f1.f1, .int .i64 (rd_T34 xs j).f1.f2, .int .i64 (rd_T34 xs j).f1.f3.f0, .string (rd_T34 xs j).f1.f3.f1, .int .i64 (rd_T34 xs j).f1.f3.f2, .int .i64 (rd_T34 xs j).f1.f3.f3, .string (rd_T34 xs j).f1.f3.f4, .int .i64 (rd_T34 xs j).f2.f0, .int .i64 (rd_T34 xs j).f2.f1, .int .i64 (rd_T34 xs j).f2.f2, .string (rd_T34 xs j).f2.f3] 34) (some g))
        cases hpx : p (rd_T34 xs j) with
        | true =>
          rw [hpx] at HCALL
          have HX := Aside0.mk hpx
          clear hpx
          go_wp2
          refine (HCALL.out _ (HG1.out.trans HWA.out)).mono ?_
          rintro e w2 ⟨rfl, hb2⟩
          have HB2 := Aside0.mk hb2
          clear hb2 hx0 hx1 hx2 hx3 hx4 hx5 hx6 hx7 hx8 hx9 hx10 hx11 hx12 hx13 hy0 hy1 hy2 hy3 hy4 hy5 hy6 hy7 hy8 hy9 hy10 hy11 hy12 hy13 hz0 hz1 hz2 hz3 hz4 hz5 hz6 hz7 hz8 hz9 hz10 hz11 hz12 hz13
          go_wp2
          go_roundw
          case rel =>
            refine ⟨i, j + 1, xs, rfl, by go_num, ⟨by have := HJ.out; omega, by omega, HJ.out.2.2.1, ?_, ?_⟩, ⟨Kd.R_below (Kd.R_alloc HO1.out _) HB2.out⟩, ⟨(HG1.out.trans HWA.out).trans (grown_of_below HB2.out _)⟩⟩
            · rw [filter_take_step p l0 j hlt, ← hrd.out, HX.out, HJ.out.2.2.2.1]; simp
            · rw [← List.drop_drop, HJ.out.2.2.2.2, List.drop_drop]
          case measure => simp [intOf]; omega
        | false =>
          rw [hpx] at HCALL
          have HX := Aside0.mk hpx
          clear hpx
          go_wp2
          refine (HCALL.out _ (HG1.out.trans HWA.out)).mono ?_
          rintro e w2 ⟨rfl, hb2⟩
          have HB2 := Aside0.mk hb2
          have hv0 : w2.cell? ⟨wr.heap.size, 0, none⟩ = some (.int .i64 (rd_T34 xs j).f0.f0) := (hb2.cell (p := ⟨wr.heap.size, 0, none⟩) (by simp)).trans (cell_fresh _ _ _ _ _ rfl)
          have hv1 : w2.cell? ⟨wr.heap.size, 1, none⟩ = some (.int .i64 (rd_T34 xs j).f0.f1) := (hb2.cell (p := ⟨wr.heap.size, 1, none⟩) (by simp)).trans (cell_fresh _ _ _ _ _ rfl)
          have hv2 : w2.cell? ⟨wr.heap.size, 2, none⟩ = some (.int .i64 (rd_T34 xs j).f1.f0) := (hb2.cell (p := ⟨wr.heap.size, 2, none⟩) (by simp)).trans (cell_fresh _ _ _ _ _ rfl)
          have hv3 : w2.cell? ⟨wr.heap.size, 3, none⟩ = some (.int .i64 (rd_T34 xs j).f1.f1) := (hb2.cell (p := ⟨wr.heap.size, 3, none⟩) (by simp)).trans (cell_fresh _ _ _ _ _ rfl)
          have hv4 : w2.cell? ⟨wr.heap.size, 4, none⟩ = some (.int .i64 (rd_T34 xs j).f1.f2) := (hb2.cell (p := ⟨wr.heap.size, 4, none⟩) (by simp)).trans (cell_fresh _ _ _ _ _ rfl)
          have hv5 : w2.cell? ⟨wr.heap.size, 5, none⟩ = some (.int .i64 (rd_T34 xs j).f1.f3.f0) := (hb2.cell (p := ⟨wr.heap.size, 5, none⟩) (by simp)).trans (cell_fresh _ _ _ _ _ rfl)
          have hv6 : w2.cell? ⟨wr.heap.size, 6, none⟩ = some (.string (rd_T34 xs j).f1.f3.f1) := (hb2.cell (p := ⟨wr.heap.size, 6, none⟩) (by simp)).trans (cell_fresh _ _ _ _ _ rfl)
          have hv7 : w2.cell? ⟨wr.heap.size, 7, none⟩ = some (.int .i64 (rd_T34 xs j).f1.f3.f2) := (hb2.cell (p := ⟨wr.heap.size, 7, none⟩) (by simp)).trans (cell_fresh _ _ _ _ _ rfl)
          have hv8 : w2.cell? ⟨wr.heap.size, 8, none⟩ = some (.int .i64 (rd_T34 xs j).f1.f3.f3) := (hb2.cell (p := ⟨wr.heap.size, 8, none⟩) (by simp)).trans (cell_fresh _ _ _ _ _ rfl)
          have hv9 : w2.cell? ⟨wr.heap.size, 9, none⟩ = some (.string (rd_T34 xs j).f1.f3.f4) := (hb2.cell (p := ⟨wr.heap.size, 9, none⟩) (by simp)).trans (cell_fresh _ _ _ _ _ rfl)
          have hv10 : w2.cell? ⟨wr.heap.size, 10, none⟩ = some (.int .i64 (rd_T34 xs j).f2.f0) := (hb2.cell (p := ⟨wr.heap.size, 10, none⟩) (by simp)).trans (cell_fresh _ _ _ _ _ rfl)
          have hv11 : w2.cell? ⟨wr.heap.size, 11, none⟩ = some (.int .i64 (rd_T34 xs j).f2.f1) := (hb2.cell (p := ⟨wr.heap.size, 11, none⟩) (by simp)).trans (cell_fresh _ _ _ _ _ rfl)
          have hv12 : w2.cell? ⟨wr.heap.size, 12, none⟩ = some (.int .i64 (rd_T34 xs j).f2.f2) := (hb2.cell (p := ⟨wr.heap.size, 12, none⟩) (by simp)).trans (cell_fresh _ _ _ _ _ rfl)
          have hv13 : w2.cell? ⟨wr.heap.size, 13, none⟩ = some (.string (rd_T34 xs j).f2.f3) := (hb2.cell (p := ⟨wr.heap.size, 13, none⟩) (by simp)).trans (cell_fresh _ _ _ _ _ rfl)
          clear hx0 hx1 hx2 hx3 hx4 hx5 hx6 hx7 hx8 hx9 hx10 hx11 hx12 hx13 hy0 hy1 hy2 hy3 hy4 hy5 hy6 hy7 hy8 hy9 hy10 hy11 hy12 hy13 hz0 hz1 hz2 hz3 hz4 hz5 hz6 hz7 hz8 hz9 hz10 hz11 hz12 hz13
          clear hb2
          have HO2 := Aside0.mk (Kd.R_below (Kd.R_alloc HO1.out (.cells #[.int .i64 (rd_T34 xs j).f0.f0, .int .i64 (rd_T34 xs j).f0.f1, .int .i64 (rd_T34 xs j).f1.f0, .int .i64 (rd_T34 xs j).f1.f1, .int .i64 (rd_T34 xs j).f1.f2, .int .i64 (rd_T34 xs j).f1.f3.f0, .string (rd_T34 xs j).f1.f3.f1, .int .i64 (rd_T34 xs j).f1.f3.f2, .int .i64 (rd_T34 xs j).f1.f3.f3, .string (rd_T34 xs j).f1.f3.f4, .int .i64 (rd_T34 xs j).f2.f0, .int .i64 (rd_T34 xs j).f2.f1, .int .i64 (rd_T34 xs j).f2.f2, .string (rd_T34 xs j).f2.f3] 34)) HB2.out)
          obtain ⟨ce3, hcl3, hM3, hcc3, hfr3⟩ := Kd.R_elem HO2.out z34 i (by omega) (by omega)
          have hseg := Kd.R_seg HO2.out (i : Int) (by omega) (by omega) (seg := [.int .i64 (rd_T34 xs j).f0.f0, .int .i64 (rd_T34 xs j).f0.f1, .int .i64 (rd_T34 xs j).f1.f0, .int .i64 (rd_T34 xs j).f1.f1, .int .i64 (rd_T34 xs j).f1.f2, .int .i64 (rd_T34 xs j).f1.f3.f0, .string (rd_T34 xs j).f1.f3.f1, .int .i64 (rd_T34 xs j).f1.f3.f2, .int .i64 (rd_T34 xs j).f1.f3.f3, .string (rd_T34 xs j).f1.f3.f4, .int .i64 (rd_T34 xs j).f2.f0, .int .i64 (rd_T34 xs j).f2.f1, .int .i64 (rd_T34 xs j).f2.f2, .string (rd_T34 xs j).f2.f3]) (j := 0) hcl3 hcc3 (show 14 ≤ 14 from by decide) (x' := rd_T34 xs j) (okp := fun k => ok k ∧ k ≠ g) (by
            have hl2 : ce3.length = 14 := hcl3
            have : List.drop 14 ce3 = [] := List.drop_eq_nil_of_le (by omega)
            simp only [List.take_zero, List.nil_append, List.length_cons, List.length_nil, Nat.zero_add, Nat.reduceAdd, this, List.append_nil]
            exact k34_mkM _ _ _ (rd_T34 xs j)) (fun _ hk => hk)
          obtain ⟨hR3, hG3⟩ := hseg
          have HR3 := Aside0.mk hR3
          have HG3 := Aside0.mk hG3
          obtain rfl := k34_openM hM3
          have hy0 : w2.cell? ⟨g, i * 14, none⟩ = some (.int .i64 (rd_T34 xs i).f0.f0) := hcc3 0 _ rfl
          have hy1 : w2.cell? ⟨g, i * 14 + 1, none⟩ = some (.int .i64 (rd_T34 xs i).f0.f1) := hcc3 1 _ rfl
          have hy2 : w2.cell? ⟨g, i * 14 + 2, none⟩ = some (.int .i64 (rd_T34 xs i).f1.f0) := hcc3 2 _ rfl
          have hy3 : w2.cell? ⟨g, i * 14 + 3, none⟩ = some (.int .i64 (rd_T34 xs i).f1.f1) := hcc3 3 _ rfl
          have hy4 : w2.cell? ⟨g, i * 14 + 4, none⟩ = some (.int .i64 (rd_T34 xs i).f1.f2) := hcc3 4 _ rfl
          have hy5 : w2.cell? ⟨g, i * 14 + 5, none⟩ = some (.int .i64 (rd_T34 xs i).f1.f3.f0) := hcc3 5 _ rfl
          have hy6 : w2.cell? ⟨g, i * 14 + 6, none⟩ = some (.string (rd_T34 xs i).f1.f3.f1) := hcc3 6 _ rfl
          have hy7 : w2.cell? ⟨g, i * 14 + 7, none⟩ = some (.int .i64 (rd_T34 xs i).f1.f3.f2) := hcc3 7 _ rfl
          have hy8 : w2.cell? ⟨g, i * 14 + 8, none⟩ = some (.int .i64 (rd_T34 xs i).f1.f3.f3) := hcc3 8 _ rfl
          have hy9 : w2.cell? ⟨g, i * 14 + 9, none⟩ = some (.string (rd_T34 xs i).f1.f3.f4) := hcc3 9 _ rfl
          have hy10 : w2.cell? ⟨g, i * 14 + 10, none⟩ = some (.int .i64 (rd_T34 xs i).f2.f0) := hcc3 10 _ rfl
          have hy11 : w2.cell? ⟨g, i * 14 + 11, none⟩ = some (.int .i64 (rd_T34 xs i).f2.f1) := hcc3 11 _ rfl
          have hy12 : w2.cell? ⟨g, i * 14 + 12, none⟩ = some (.int .i64 (rd_T34 xs i).f2.f2) := hcc3 12 _ rfl
          have hy13 : w2.cell? ⟨g, i * 14 + 13, none⟩ = some (.string (rd_T34 xs i).f2.f3) := hcc3 13 _ rfl
          have hz0 : w2.frozen? ⟨g, i * 14, none⟩ = false := hfr3 0
          have hz1 : w2.frozen? ⟨g, i * 14 + 1, none⟩ = false := hfr3 1
          have hz2 : w2.frozen? ⟨g, i * 14 + 2, none⟩ = false := hfr3 2
          have hz3 : w2.frozen? ⟨g, i * 14 + 3, none⟩ = false := hfr3 3
          have hz4 : w2.frozen? ⟨g, i * 14 + 4, none⟩ = false := hfr3 4
          have hz5 : w2.frozen? ⟨g, i * 14 + 5, none⟩ = false := hfr3 5
          have hz6 : w2.frozen? ⟨g, i * 14 + 6, none⟩ = false := hfr3 6
          have hz7 : w2.frozen? ⟨g, i * 14 + 7, none⟩ = false := hfr3 7
          have hz8 : w2.frozen? ⟨g, i * 14 + 8, none⟩ = false := hfr3 8
          have hz9 : w2.frozen? ⟨g, i * 14 + 9, none⟩ = false := hfr3 9
          have hz10 : w2.frozen? ⟨g, i * 14 + 10, none⟩ = false := hfr3 10
          have hz11 : w2.frozen? ⟨g, i * 14 + 11, none⟩ = false := hfr3 11
          have hz12 : w2.frozen? ⟨g, i * 14 + 12, none⟩ = false := hfr3 12
          have hz13 : w2.frozen? ⟨g, i * 14 + 13, none⟩ = false := hfr3 13
          clear hR3 hG3 hcl3 hM3 hcc3 hfr3
          go_wp2
          go_roundw
          case rel =>
            refine ⟨i + 1, j + 1, xs.set i (rd_T34 xs j), by go_num, by go_num, ⟨by have := HJ.out; omega, by omega, by rw [List.length_set]; exact HJ.out.2.2.1, ?_, ?_⟩, ⟨HR3.out⟩, ⟨((HG1.out.trans HWA.out).trans (grown_of_below HB2.out _)).trans HG3.out⟩⟩
            · have h3 := HJ.out.2.2.1
              rw [filter_take_step p l0 j hlt, ← hrd.out, HX.out, ← HJ.out.2.2.2.1]
              rw [List.take_succ_eq_append_getElem (by rw [List.length_set]; omega), List.take_set_of_le (Nat.le_refl _)]
              simp
            · rw [List.drop_set_of_lt (by have := HJ.out; omega), ← List.drop_drop, HJ.out.2.2.2.2, List.drop_drop]
          case measure => simp [intOf]; omega
      · have hje : j = l0.length := by have := HJ.out; omega
        have hin : i < l0.length := by have := HJ.out; omega
        have hic : ((i : Int) == (cap : Int)) = false := by rw [beq_eq_false_iff_ne]; have := HNC.out; omega
        obtain ⟨w3, hrun, hR3, hG3⟩ := clear_row (P := Try.prog) (t := 22) (ty := 0) (z := .agg #[(.int .i64 0), (.int .i64 0), (.int .i64 0), (.int .i64 0), (.int .i64 0), (.int .i64 0), (.string ⟨#[]⟩), (.int .i64 0), (.int .i64 0), (.string ⟨#[]⟩), (.int .i64 0), (.int .i64 0), (.int .i64 0), (.string ⟨#[]⟩)]) (c := cap - i) k34 (by decide) Try.underlying22 Try.zeroValue34 rfl (by decide) HO1.out hin
        have HR3 := Aside0.mk hR3
        have HG3 := Aside0.mk hG3
        clear hR3 hG3
        rw [show (k34).sz = 14 from rfl] at hrun
        go_wp2
        go_ret
        refine ⟨i, rfl, ?_, HG1.out.trans HG3.out⟩
        have h4 := HJ.out.2.2.2.1
        rw [hje, List.take_length] at h4
        rw [← h4]
        exact HR3.out
end Go.Proofs.Ytbdciklcckjknaa.P
