import Derived.Test.YtgnaippmncnlaaaP0
import Derived.Test.YtgnaippmncnlaaaHB
namespace Go.Proofs.Ytgnaippmncnlaaa.P
open Go.RowKit Go.Proofs.YtgnaippmncnlaaaW.PrintWords Go.Proofs.YtgnaippmncnlaaaW.PrintLast Go.Proofs.YtgnaippmncnlaaaW.PrintMore Go.Proofs.YtgnaippmncnlaaaW.HB
set_option linter.unusedVariables false

theorem rd_at_E (l : List S47) (i : Nat) (h : i < l.length) : rd_T47 l i = l[i] := by
  simp [rd_T47, List.getD_eq_getElem?_getD, List.getElem?_eq_getElem h]

def slices_Clone_E.f (l0 : List (S47)) : Option (List (S47)) := if l0.length < 8796093022208 then some l0 else none
set_option maxHeartbeats 1000000 in
theorem slices_Clone_E.calls (A0 : Option Addr) (c0 : Nat) (l0 : List (S47)) (r : List (S47)) (w : World) (hr0 : Kd.C k47 w A0 l0.length l0) (hc0 : l0.length ≤ c0) (h : slices_Clone_E.f l0 = some r) :
    Calls Try.prog 23 #[.slice A0 l0.length c0] w fun e w' => ∃ v0_ : Value, e = .returned (v0_) ∧ Kd.R k47 47 w' w.heap.size (fun _ => True) v0_ r ∧ Below w.heap.size w w' := by
  have HR0 := Aside0.mk hr0
  have HC0 := Aside0.mk hc0
  clear hr0 hc0
  have HB := Aside0.mk (Below.refl w.heap.size w)
  unfold slices_Clone_E.f at h
  split at h <;> simp at h
  subst h
  rename_i hl
  have HL := Aside0.mk hl
  clear hl
  have hnil := fun (W : World) => Lib.run_eql_slice_nil (P := Try.prog) W 22 47 A0 l0.length c0 0 0 Try.underlying22
  cases A0 with
  | none =>
    go_enter Try.func23, Try.ntmps23
    go_wp2
    go_ret
    have h0 : l0 = [] := by
      cases l0 with
      | nil => rfl
      | cons x l =>
        obtain ⟨ad, e, _⟩ := HR0.out.2.2 (by simp)
        cases e
    subst h0
    exact ⟨_, rfl, Kd.R_nil _ _ _ _ _, HB.out⟩
  | some a =>
    have HE := Aside0.mk (R_empty k47 47 w w.heap.size (fun _ => True) (Nat.le_refl _) trivial)
    go_enter Try.func23, Try.ntmps23
    go_wp2_with (first | (at_builtin; refine Kd.R_append_rows k47 (w0 := w) w.heap.size rfl (.tmp 5) (.tmp 6) 22 47 (.agg #[(.int .i64 0), (.int .i64 0)]) 16 rfl Try.underlying22 info47 rfl (by decide) (by omega) _ ([] : List (S47)) l0 _ _ _ (fun _ => True) (fun _ => False) rfl rfl HE.out (Kd.C_below HR0.out (below_alloc HB.out _)) (fun _ _ h => h) (fun _ h => h.elim) (fun _ _ => trivial) (below_alloc HB.out _) (by simp) (by have := HL.out; simp; omega) ?_; intro v125 w3 ho hb hg hat; have HO := Aside0.mk ho; have HB3 := Aside0.mk hb; clear ho hb hg hat))
    go_ret
    exact ⟨_, rfl, HO.out, HB3.out⟩

set_option maxHeartbeats 1000000 in
theorem slices_IndexFunc_E.calls (fid : Nat) (caps : Array Value) (p : (S47) → Bool) (A0 : Option Addr) (c0 : Nat) (l0 : List (S47)) (w : World) (hr0 : Kd.C k47 w A0 l0.length l0) (hc0 : l0.length ≤ c0)
    (eg : ∀ args w, (callFunc fid args).run Try.prog w = .ok (.enter fid args) w)
    (hp : ∀ x ∈ l0, ∀ w1, Below w.heap.size w w1 → Calls Try.prog fid (#[.agg #[.int .i64 x.f0, .int .i64 x.f1]] ++ caps) w1 fun e w' => e = .returned (.bool (p x)) ∧ Below w1.heap.size w1 w') :
    Calls Try.prog 24 #[.slice A0 l0.length c0, .func (.func fid) #[] caps] w fun e w' => e = .returned (.int .i64 (idxOf p l0)) ∧ Below w.heap.size w w' := by
  have hu := Try.underlying47
  have HR0 := Aside0.mk hr0
  have HC0 := Aside0.mk hc0
  have HP := Aside0.mk hp
  clear hr0 hc0 hp
  have HB := Aside0.mk (Below.refl w.heap.size w)
  go_enter Try.func24, Try.ntmps24
  go_wp2
  go_loopw [8] (fun v8 w' => ∃ i : Nat, v8 = .int .i64 i ∧ Aside0 (i ≤ l0.length ∧ ∀ j, (hj : j < l0.length) → j < i → p l0[j] = false) ∧ Aside0 (Below w.heap.size w w')) (fun v _ => l0.length - (intOf v).toNat)
  case atStart => exact ⟨0, rfl, ⟨by omega, by intros; omega⟩, HB⟩
  case round =>
    obtain ⟨i, rfl, HI, HB1⟩ := hrel
    clear HB
    have hlen := HR0.out.2.1
    by_cases hlt : i < l0.length
    · obtain ⟨ad, e1, hx0, hx1⟩ := at_T47 HR0.out i (by omega) (by omega)
      cases e1
      replace hx0 := (HB1.out.cell (World.block_lt_of_cell? w _ hx0)).trans hx0
      replace hx1 := (HB1.out.cell (World.block_lt_of_cell? w _ hx1)).trans hx1
      simp only [Int.toNat_natCast] at hx0 hx1
      have hrd := Aside0.mk (rd_at_E l0 i hlt)
      have hmem : rd_T47 l0 i ∈ l0 := by rw [hrd.out]; exact List.getElem_mem _
      have HCALL := Aside0.mk (HP.out (rd_T47 l0 i) hmem)
      clear hmem
      cases hpx : p (rd_T47 l0 i) with
      | true =>
        rw [hpx] at HCALL
        have HX := Aside0.mk hpx
        clear hpx
        go_wp2
        refine (HCALL.out _ HB1.out).mono ?_
        rintro e w2 ⟨rfl, hb2⟩
        have HB2 := Aside0.mk (below_then HB1.out HB1.out.size hb2)
        clear hb2
        go_wp2
        go_ret
        refine ⟨?_, HB2.out⟩
        rw [idxOf_hit p l0 i hlt (by rw [← hrd.out]; exact HX.out) (fun j hj h => HI.out.2 j hj h)]; rfl
      | false =>
        rw [hpx] at HCALL
        have HX := Aside0.mk hpx
        clear hpx
        go_wp2
        refine (HCALL.out _ HB1.out).mono ?_
        rintro e w2 ⟨rfl, hb2⟩
        have HB2 := Aside0.mk (below_then HB1.out HB1.out.size hb2)
        clear hb2
        go_wp2
        go_roundw
        case rel =>
          refine ⟨i + 1, by go_num, ⟨by omega, fun j hj h => ?_⟩, HB2⟩
          rcases Nat.lt_succ_iff_lt_or_eq.1 h with h | rfl
          · exact HI.out.2 j hj h
          · rw [← hrd.out]; exact HX.out
        case measure => simp [intOf]; omega
    · go_wp2
      go_ret
      refine ⟨?_, HB1.out⟩
      rw [idxOf_none p l0 (fun j hj => HI.out.2 j hj (by omega))]; rfl

theorem slices_ContainsFunc_E.calls (fid : Nat) (caps : Array Value) (p : (S47) → Bool) (A0 : Option Addr) (c0 : Nat) (l0 : List (S47)) (w : World) (hr0 : Kd.C k47 w A0 l0.length l0) (hc0 : l0.length ≤ c0)
    (eg : ∀ args w, (callFunc fid args).run Try.prog w = .ok (.enter fid args) w)
    (hp : ∀ x ∈ l0, ∀ w1, Below w.heap.size w w1 → Calls Try.prog fid (#[.agg #[.int .i64 x.f0, .int .i64 x.f1]] ++ caps) w1 fun e w' => e = .returned (.bool (p x)) ∧ Below w1.heap.size w1 w') :
    Calls Try.prog 42 #[.slice A0 l0.length c0, .func (.func fid) #[] caps] w fun e w' => e = .returned (.bool (l0.any p)) ∧ Below w.heap.size w w' := by
  have HR0 := Aside0.mk hr0
  have HC0 := Aside0.mk hc0
  have HP := Aside0.mk hp
  clear hr0 hc0 hp
  rcases idxOf_cases p l0 with ⟨hi, hall⟩ | ⟨i0, hi, hi1, hi2, hi3⟩
  · have HI := Aside0.mk hi
    have HA := Aside0.mk (show l0.any p = false from by simpa using hall)
    clear hi hall
    go_enter Try.func42, Try.ntmps42
    go_wp2_with (first | (go_at_call 24; refine (slices_IndexFunc_E.calls fid caps p A0 c0 l0 _ HR0.out HC0.out eg HP.out).mono ?_; rintro e w1 ⟨rfl, hb⟩; rw [HI.out]; have HB1 := Aside0.mk hb; clear hb))
    go_ret
    exact ⟨by rw [HA.out]; rfl, HB1.out⟩
  · have HI := Aside0.mk hi
    have HA := Aside0.mk (show l0.any p = true from by rw [List.any_eq_true]; exact ⟨_, List.getElem_mem hi1, hi2⟩)
    clear hi hi1 hi2 hi3
    go_enter Try.func42, Try.ntmps42
    go_wp2_with (first | (go_at_call 24; refine (slices_IndexFunc_E.calls fid caps p A0 c0 l0 _ HR0.out HC0.out eg HP.out).mono ?_; rintro e w1 ⟨rfl, hb⟩; rw [HI.out]; have HB1 := Aside0.mk hb; clear hb))
    go_ret
    exact ⟨by rw [HA.out]; simp, HB1.out⟩

set_option maxHeartbeats 2000000 in
theorem slices_DeleteFunc_E.calls (fid : Nat) (caps : Array Value) (p : (S47) → Bool) (g n cap : Nat) (base : Nat) (ok : Nat → Prop) (l0 : List (S47)) (w : World)
    (ho : Kd.R k47 47 w base ok (.slice (some ⟨g, 0, none⟩) n cap) l0)
    (eg : ∀ args w, (callFunc fid args).run Try.prog w = .ok (.enter fid args) w)
    (hp : ∀ x ∈ l0, ∀ w1, w.grownBy w1 (some g) → Calls Try.prog fid (#[.agg #[.int .i64 x.f0, .int .i64 x.f1]] ++ caps) w1 fun e w' => e = .returned (.bool (p x)) ∧ Below w1.heap.size w1 w') :
    Calls Try.prog 32 #[.slice (some ⟨g, 0, none⟩) n cap, .func (.func fid) #[] caps] w fun e w' => ∃ m, e = .returned (.slice (some ⟨g, 0, none⟩) m cap) ∧ Kd.R k47 47 w' base ok (.slice (some ⟨g, 0, none⟩) m cap) (l0.filter (fun x => !p x)) ∧ w.grownBy w' (some g) := by
  have hu := Try.underlying47
  obtain ⟨hn, hnc, hC⟩ := Kd.R_reads' ho
  subst hn
  have HO := Aside0.mk ho
  have HC := Aside0.mk hC
  have HP := Aside0.mk hp
  have HNC := Aside0.mk hnc
  have hlen := hC.2.1
  clear ho hC hp
  rcases idxOf_cases p l0 with ⟨hi, hall⟩ | ⟨i0, hi, hi1, hi2, hi3⟩
  · have HI := Aside0.mk hi
    have HA := Aside0.mk hall
    clear hi hall
    go_enter Try.func32, Try.ntmps32
    go_wp2_with (first | (go_at_call 24; refine (slices_IndexFunc_E.calls fid caps p (some ⟨g, 0, none⟩) cap l0 _ HC.out HNC.out eg (fun x hx w1 hb => HP.out x hx w1 (grown_of_below hb _))).mono ?_; rintro e w1 ⟨rfl, hb⟩; rw [HI.out]; have HB1 := Aside0.mk hb; clear hb))
    go_ret
    refine ⟨_, rfl, ?_, grown_of_below HB1.out _⟩
    rw [filter_all p l0 HA.out]
    exact Kd.R_below HO.out HB1.out
  · have HI := Aside0.mk hi
    have HX := Aside0.mk hi2
    have HA := Aside0.mk hi3
    have hne : ((i0 : Int) == -1) = false := by rw [beq_eq_false_iff_ne]; omega
    clear hi hi2 hi3
    go_enter Try.func32, Try.ntmps32
    go_wp2_with (first | (go_at_call 24; refine (slices_IndexFunc_E.calls fid caps p (some ⟨g, 0, none⟩) cap l0 _ HC.out HNC.out eg (fun x hx w1 hb => HP.out x hx w1 (grown_of_below hb _))).mono ?_; rintro e w1 ⟨rfl, hb⟩; rw [HI.out]; have HB1 := Aside0.mk hb; clear hb))
    go_loopw [5, 6] (fun v5 v6 w' => ∃ (i j : Nat) (xs : List (S47)), v5 = .int .i64 i ∧ v6 = .int .i64 j ∧ Aside0 (i < j ∧ j ≤ l0.length ∧ xs.length = l0.length ∧ xs.take i = (l0.take j).filter (fun x => !p x) ∧ xs.drop j = l0.drop j) ∧ Aside0 (Kd.R k47 47 w' base ok (.slice (some ⟨g, 0, none⟩) l0.length cap) xs) ∧ Aside0 (w.grownBy w' (some g))) (fun _ v _ => l0.length - (intOf v).toNat)
    case atStart =>
      refine ⟨i0, i0 + 1, l0, rfl, by go_num, ⟨by omega, by omega, rfl, ?_, rfl⟩, ⟨Kd.R_below HO.out HB1.out⟩, ⟨grown_of_below HB1.out _⟩⟩
      rw [filter_take_step p l0 i0 hi1, HX.out]
      simp [filter_take_none p l0 i0 HA.out]
    case round =>
      obtain ⟨i, j, xs, rfl, rfl, HJ, HO1, HG1⟩ := hrel
      clear HO HC HB1 HA HX HI hi1
      by_cases hlt : j < l0.length
      · obtain ⟨ce, hcl, hM, hcc, hfr⟩ := Kd.R_elem HO1.out z47 j (by omega) (by omega)
        obtain rfl := k47_openM hM
        have hx0 : wr.cell? ⟨g, j * 2, none⟩ = some (.int .i64 (rd_T47 xs j).f0) := hcc 0 _ rfl
        have hx1 : wr.cell? ⟨g, j * 2 + 1, none⟩ = some (.int .i64 (rd_T47 xs j).f1) := hcc 1 _ rfl
        clear hcl hM hcc hfr
        have hrd := Aside0.mk (show rd_T47 xs j = l0[j] from by
          have h5 := HJ.out.2.2.2.2
          have h3 := HJ.out.2.2.1
          rw [rd_at_E xs j (by omega)]
          have : (xs.drop j)[0]? = (l0.drop j)[0]? := by rw [h5]
          simpa [List.getElem?_drop, List.getElem?_eq_getElem hlt, List.getElem?_eq_getElem (show j < xs.length by omega)] using this)
        have hin : i < l0.length := by have := HJ.out; omega
        have HCALL := Aside0.mk (HP.out (rd_T47 xs j) (by rw [hrd.out]; exact List.getElem_mem _))
        obtain ⟨ce2, hcl2, hM2, hcc2, hfr2⟩ := Kd.R_elem HO1.out z47 i (by omega) (by have := HJ.out; omega)
        obtain rfl := k47_openM hM2
        have hy0 : wr.cell? ⟨g, i * 2, none⟩ = some (.int .i64 (rd_T47 xs i).f0) := hcc2 0 _ rfl
        have hy1 : wr.cell? ⟨g, i * 2 + 1, none⟩ = some (.int .i64 (rd_T47 xs i).f1) := hcc2 1 _ rfl
        have hz0 : wr.frozen? ⟨g, i * 2, none⟩ = false := hfr2 0
        have hz1 : wr.frozen? ⟨g, i * 2 + 1, none⟩ = false := hfr2 1
        clear hcl2 hM2 hcc2 hfr2
        have HWA := Aside0.mk (World.grownBy_alloc wr (.cells #[.int .i64 (rd_T47 xs j).f0, .int .i64 (rd_T47 xs j).f1] 47) (some g))
        cases hpx : p (rd_T47 xs j) with
        | true =>
          rw [hpx] at HCALL
          have HX := Aside0.mk hpx
          clear hpx
          go_wp2
          refine (HCALL.out _ (HG1.out.trans HWA.out)).mono ?_
          rintro e w2 ⟨rfl, hb2⟩
          have HB2 := Aside0.mk hb2
          clear hb2 hx0 hx1 hy0 hy1 hz0 hz1
          go_wp2
          go_roundw
          case rel =>
            refine ⟨i, j + 1, xs, rfl, by go_num, ⟨by have := HJ.out; omega, by omega, HJ.out.2.2.1, ?_, ?_⟩, ⟨Kd.R_below (Kd.R_alloc HO1.out _) HB2.out⟩, ⟨(HG1.out.trans HWA.out).trans (grown_of_below HB2.out _)⟩⟩
            · rw [filter_take_step p l0 j hlt, ← hrd.out, HX.out, HJ.out.2.2.2.1]; simp
            · rw [← List.drop_drop, HJ.out.2.2.2.2, List.drop_drop]
          case measure => simp [intOf]; omega
        | false =>
          rw [hpx] at HCALL
          have HX := Aside0.mk hpx
          clear hpx
          go_wp2
          refine (HCALL.out _ (HG1.out.trans HWA.out)).mono ?_
          rintro e w2 ⟨rfl, hb2⟩
          have HB2 := Aside0.mk hb2
          have hv0 : w2.cell? ⟨wr.heap.size, 0, none⟩ = some (.int .i64 (rd_T47 xs j).f0) := (hb2.cell (p := ⟨wr.heap.size, 0, none⟩) (by simp)).trans (cell_fresh _ _ _ _ _ rfl)
          have hv1 : w2.cell? ⟨wr.heap.size, 1, none⟩ = some (.int .i64 (rd_T47 xs j).f1) := (hb2.cell (p := ⟨wr.heap.size, 1, none⟩) (by simp)).trans (cell_fresh _ _ _ _ _ rfl)
          clear hx0 hx1 hy0 hy1 hz0 hz1
          clear hb2
          have HO2 := Aside0.mk (Kd.R_below (Kd.R_alloc HO1.out (.cells #[.int .i64 (rd_T47 xs j).f0, .int .i64 (rd_T47 xs j).f1] 47)) HB2.out)
          obtain ⟨ce3, hcl3, hM3, hcc3, hfr3⟩ := Kd.R_elem HO2.out z47 i (by omega) (by omega)
          have hseg := Kd.R_seg HO2.out (i : Int) (by omega) (by omega) (seg := [.int .i64 (rd_T47 xs j).f0, .int .i64 (rd_T47 xs j).f1]) (j := 0) hcl3 hcc3 (show 2 ≤ 2 from by decide) (x' := rd_T47 xs j) (okp := fun k => ok k ∧ k ≠ g) (by
            have hl2 : ce3.length = 2 := hcl3
            have : List.drop 2 ce3 = [] := List.drop_eq_nil_of_le (by omega)
            simp only [List.take_zero, List.nil_append, List.length_cons, List.length_nil, Nat.zero_add, Nat.reduceAdd, this, List.append_nil]
            exact k47_mkM _ _ _ (rd_T47 xs j)) (fun _ hk => hk)
          obtain ⟨hR3, hG3⟩ := hseg
          have HR3 := Aside0.mk hR3
          have HG3 := Aside0.mk hG3
          obtain rfl := k47_openM hM3
          have hy0 : w2.cell? ⟨g, i * 2, none⟩ = some (.int .i64 (rd_T47 xs i).f0) := hcc3 0 _ rfl
          have hy1 : w2.cell? ⟨g, i * 2 + 1, none⟩ = some (.int .i64 (rd_T47 xs i).f1) := hcc3 1 _ rfl
          have hz0 : w2.frozen? ⟨g, i * 2, none⟩ = false := hfr3 0
          have hz1 : w2.frozen? ⟨g, i * 2 + 1, none⟩ = false := hfr3 1
          clear hR3 hG3 hcl3 hM3 hcc3 hfr3
          go_wp2
          go_roundw
          case rel =>
            refine ⟨i + 1, j + 1, xs.set i (rd_T47 xs j), by go_num, by go_num, ⟨by have := HJ.out; omega, by omega, by rw [List.length_set]; exact HJ.out.2.2.1, ?_, ?_⟩, ⟨HR3.out⟩, ⟨((HG1.out.trans HWA.out).trans (grown_of_below HB2.out _)).trans HG3.out⟩⟩
            · have h3 := HJ.out.2.2.1
              rw [filter_take_step p l0 j hlt, ← hrd.out, HX.out, ← HJ.out.2.2.2.1]
              rw [List.take_succ_eq_append_getElem (by rw [List.length_set]; omega), List.take_set_of_le (Nat.le_refl _)]
              simp
            · rw [List.drop_set_of_lt (by have := HJ.out; omega), ← List.drop_drop, HJ.out.2.2.2.2, List.drop_drop]
          case measure => simp [intOf]; omega
      · have hje : j = l0.length := by have := HJ.out; omega
        have hin : i < l0.length := by have := HJ.out; omega
        have hic : ((i : Int) == (cap : Int)) = false := by rw [beq_eq_false_iff_ne]; have := HNC.out; omega
        obtain ⟨w3, hrun, hR3, hG3⟩ := clear_row (P := Try.prog) (t := 22) (ty := 0) (z := .agg #[(.int .i64 0), (.int .i64 0)]) (c := cap - i) k47 (by decide) Try.underlying22 Try.zeroValue47 rfl (by decide) HO1.out hin
        have HR3 := Aside0.mk hR3
        have HG3 := Aside0.mk hG3
        clear hR3 hG3
        rw [show (k47).sz = 2 from rfl] at hrun
        go_wp2
        go_ret
        refine ⟨i, rfl, ?_, HG1.out.trans HG3.out⟩
        have h4 := HJ.out.2.2.2.1
        rw [hje, List.take_length] at h4
        rw [← h4]
        exact HR3.out
end Go.Proofs.Ytgnaippmncnlaaa.P
