import Derived.Test.YtpaapnkpijincaaO7
import Derived.Test.YtpaapnkpijincaaHS
namespace Go.Proofs.Ytpaapnkpijincaa.P
open Go.RowKit Go.Proofs.YtpaapnkpijincaaW.PrintWords Go.Proofs.YtpaapnkpijincaaW.PrintLast Go.Proofs.YtpaapnkpijincaaW.PrintMore Go.Proofs.YtpaapnkpijincaaW.HB
set_option linter.unusedVariables false
set_option linter.unusedSimpArgs false

theorem rd_at_F (l : List S46) (i : Nat) (h : i < l.length) : rd_T46 l i = l[i] := by
  simp [rd_T46, List.getD_eq_getElem?_getD, List.getElem?_eq_getElem h]
def needL (m : ByteArray) (l : List S46) : List Int := (l.filter (fun f => decide (0 ≤ f.f0) && !getM m f.f0)).map (fun f => f.f0)
theorem needL_succ (m : ByteArray) (l : List S46) (i : Nat) (h : i < l.length) : needL m (l.take (i + 1)) = needL m (l.take i) ++ (if (decide (0 ≤ (rd_T46 l i).f0) && !getM m (rd_T46 l i).f0) = true then [(rd_T46 l i).f0] else []) := by
  unfold needL
  rw [List.take_succ_eq_append_getElem h, List.filter_append, List.map_append, rd_at_F l i h]
  congr 1
  rw [List.filter_cons]
  cases (decide (0 ≤ (l[i]).f0) && !getM m (l[i]).f0) <;> simp
theorem needL_len (m : ByteArray) (l : List S46) : (needL m l).length ≤ l.length := by
  unfold needL; rw [List.length_map]; exact List.length_filter_le _ _
def objmap_Needs.f (m : ByteArray) (l : List S46) : Option (List Int) := if l.length ≤ 4398046511104 then some (Lib.compact ((needL m l).mergeSort fun x y => decide (x ≤ y))) else none
set_option maxRecDepth 100000 in
set_option maxHeartbeats 4000000 in
theorem objmap_Needs.calls (a0 : ByteArray) (A1 : Option Addr) (c1 : Nat) (l1 : List S46) (r : List Int) (w : World) (hr1 : Kd.C k46 w A1 l1.length l1) (hc1 : l1.length ≤ c1) (h : objmap_Needs.f a0 l1 = some r) :
    Calls Try.prog 29 #[.string a0, .slice A1 l1.length c1] w fun e w' => ∃ v0_ : Value, e = .returned v0_ ∧ Kd.R (Kd.int .i64) 3 w' w.heap.size (fun _ => True) v0_ r ∧ Below w.heap.size w w' := by
  unfold objmap_Needs.f at h
  split at h
  case isFalse => cases h
  rename_i hl
  obtain rfl := Option.some.inj h
  clear h
  have HL := Aside0.mk hl
  have HR := Aside0.mk hr1
  have hlen := hr1.2.1
  clear hr1 hl
  have hue := Try.underlying46
  go_enter Try.func29, Try.ntmps29
  go_wp2_with fail
  go_loopw [5, 10] (fun v5 v10 wr => ∃ i : Nat, v10 = .int .i64 i ∧ Aside0 (i ≤ l1.length) ∧ Aside0 (Kd.R (Kd.int .i64) 3 wr w.heap.size (fun _ => True) v5 (needL a0 (l1.take i))) ∧ Aside0 (Below w.heap.size w wr)) (fun _ v _ => l1.length - (intOf v).toNat)
  case atStart => exact ⟨0, rfl, ⟨Nat.zero_le _⟩, ⟨Kd.R_nil _ _ _ _ _⟩, ⟨Below.refl _ _⟩⟩
  case round =>
    obtain ⟨i, rfl, HI, HRr, HBr⟩ := hrel
    obtain ⟨Ao, co, rfl⟩ := Kd.R_slice HRr.out
    by_cases hlt : i < l1.length
    · obtain ⟨ad, e1, hx0, hx1, hx2, hx3⟩ := at_T46 (Kd.C_below HR.out HBr.out) i (by omega) (by omega)
      cases e1
      simp only [Int.toNat_natCast] at hx0 hx1 hx2 hx3
      have HSU := Aside0.mk (needL_succ a0 l1 i hlt)
      have HNL := Aside0.mk (show (needL a0 (l1.take i)).length ≤ 4398046511104 from by have h1 := needL_len a0 (l1.take i); have h2 := HL.out; rw [List.length_take] at h1; omega)
      have HR2 := Aside0.mk HRr.out
      generalize hol : (needL a0 (l1.take i)).length = ol at *
      have HOL := Aside0.mk hol
      clear hol HRr
      generalize rd_T46 l1 i = x at *
      obtain ⟨x0, x1, x2, x3⟩ := x
      dsimp only at hx0 hx1 hx2 hx3 HSU
      obtain ⟨W0, hW0⟩ : ∃ W0, W0 = wr.alloc (.cells #[.int .i64 x0, .int .i64 x1, .int .i64 x2, .int .i64 x3] 46) := ⟨_, rfl⟩
      have hbox := cell_fresh wr #[.int .i64 x0, .int .i64 x1, .int .i64 x2, .int .i64 x3] 46 0 _ rfl
      have HB0 := Aside0.mk (below_alloc HBr.out (.cells #[.int .i64 x0, .int .i64 x1, .int .i64 x2, .int .i64 x3] 46))
      have HR0 := Aside0.mk (Kd.R_alloc HR2.out (.cells #[.int .i64 x0, .int .i64 x1, .int .i64 x2, .int .i64 x3] 46))
      have HBX := Aside0.mk hbox
      clear hbox hW0
      by_cases h0 : 0 ≤ x0
      · cases hg : getM a0 x0 with
        | true =>
          have HS := Aside0.mk (show needL a0 (l1.take (i + 1)) = needL a0 (l1.take i) from by rw [HSU.out, hg]; simp)
          have HG := Aside0.mk ((get_eq a0 x0).trans (congrArg some hg))
          clear hg HSU
          go_wp2_with (first | (go_at_call 18; refine (objmap_Get.calls a0 x0 _ _ HG.out).mono ?_; rintro e w1 ⟨rfl, hD⟩; have HD := Aside0.mk hD.below; clear hD))
          go_roundw
          case rel => exact ⟨i + 1, by go_num, ⟨by omega⟩, ⟨by rw [HS.out]; exact Kd.R_below HR0.out HD.out⟩, ⟨below_step HB0.out HD.out⟩⟩
          case measure => simp [intOf]; omega
        | false =>
          have HS := Aside0.mk (show needL a0 (l1.take (i + 1)) = needL a0 (l1.take i) ++ [x0] from by rw [HSU.out, hg, decide_eq_true h0]; simp)
          have HG := Aside0.mk ((get_eq a0 x0).trans (congrArg some hg))
          clear hg HSU
          go_wp2_with (first
            | (go_at_call 18; refine (objmap_Get.calls a0 x0 _ _ HG.out).mono ?_; rintro e w1 ⟨rfl, hD⟩; have hbx := (hD.below.cell (p := ⟨wr.heap.size, 0, none⟩) (by simp)).trans HBX.out; have HD := Aside0.mk hD.below; clear hD;
                have HB1 := Aside0.mk (below_step HB0.out HD.out); have HR1 := Aside0.mk (Kd.R_below HR0.out HD.out);
                have HONE := Aside0.mk (Kd.R_reads' (R_one (d := Kd.int .i64) (e := 3) (w := w1) (base := w.heap.size) (ok := fun _ => True) (x := x0) (cs := #[.int .i64 x0]) (Kd.int_mkM _ _ _ x0) HB1.out.size trivial)).2.2;
                have HR3 := Aside0.mk (Kd.R_alloc HR1.out (.cells #[.int .i64 x0] 3)))
            | (at_builtin; refine Kd.R_append_rows (Kd.int .i64) (w0 := w) w.heap.size rfl (.tmp 24) (.tmp 27) 38 3 (.int .i64 0) 8 rfl Try.underlying38 info3 rfl (by decide) (by omega) _ (needL a0 (l1.take i)) [x0] _ _ _ (fun _ => True) (fun _ => False) rfl rfl HR3.out HONE.out (fun _ _ h => h) (fun _ h => h.elim) (fun _ _ => trivial) (below_alloc HB1.out _) (by have := HB1.out.size; simp; omega) (by have := HNL.out; have := HOL.out; simp; omega) ?_; intro v6 w6 ho hb hg hat; have HO6 := Aside0.mk ho; have HB6 := Aside0.mk hb; clear ho hb hg hat))
          go_roundw
          case rel => exact ⟨i + 1, by go_num, ⟨by omega⟩, ⟨by rw [HS.out]; exact HO6.out⟩, HB6⟩
          case measure => simp [intOf]; omega
      · have HS := Aside0.mk (show needL a0 (l1.take (i + 1)) = needL a0 (l1.take i) from by rw [HSU.out, decide_eq_false h0]; simp)
        clear HSU
        go_wp2_with fail
        go_roundw
        case rel => exact ⟨i + 1, by go_num, ⟨by omega⟩, ⟨by rw [HS.out]; exact HR0.out⟩, HB0⟩
        case measure => simp [intOf]; omega
    · obtain rfl : i = l1.length := by have := HI.out; omega
      have HR2 := Aside0.mk HRr.out
      rw [List.take_length] at HR2
      have hnl := needL_len a0 l1
      have HNL := Aside0.mk (show (needL a0 l1).length < 4611686018427387904 from by have := HL.out; omega)
      clear HRr hnl
      rw [List.take_length]
      generalize hnd : needL a0 l1 = nd at *
      obtain ⟨sl, hsl⟩ : ∃ sl, sl = nd.mergeSort fun x y => decide (x ≤ y) := ⟨_, rfl⟩
      have HSL := Aside0.mk (show sl.length = nd.length from by rw [hsl]; simp)
      have HS := Aside0.mk hsl
      have HND := Aside0.mk hnd
      clear hsl hnd
      go_wp2_with (first
        | (go_at_call 37; refine (sort_R Ao co nd 3 w.heap.size (fun _ => True) _ HR2.out HNL.out).mono ?_; rintro e w3 ⟨rfl, hR, row, hg, hrow⟩; rw [← HS.out] at hR; have HR3 := Aside0.mk hR; have HW3 := Aside0.mk (pw_below_grown HBr.out row HBr.out.size hg (fun k hk => own_base6 HR2.out k (hrow k hk))); clear hR hg hrow HR2)
        | (go_at_call 38; refine (compact_Rn Ao co nd.length sl 3 w.heap.size (fun _ => True) _ HSL.out HR3.out HNL.out).mono ?_; rintro e w4 ⟨rfl, hR, row, hg, hrow⟩; have HR4 := Aside0.mk hR; have HW4 := Aside0.mk (pw_below_grown HW3.out row HW3.out.size hg (fun k hk => own_base6 HR3.out k (hrow k hk))); clear hR hg hrow HR3 HW3))
      go_ret
      refine ⟨_, rfl, ?_, HW4.out⟩
      rw [HND.out, ← HS.out]
      exact HR4.out
end Go.Proofs.Ytpaapnkpijincaa.P
