import Derived.Test.YtgnaippmncnlaaaP0
import Derived.Test.YtgnaippmncnlaaaHS
import Derived.BigQuiet
import Derived.Test.YtgnaippmncnlaaaH4d
namespace Go.Proofs.Ytgnaippmncnlaaa.P
open Go.RowKit Go.Proofs.YtgnaippmncnlaaaW.PrintWords Go.Proofs.YtgnaippmncnlaaaW.PrintLast Go.Proofs.YtgnaippmncnlaaaW.PrintMore Go.Proofs.YtgnaippmncnlaaaW.HB
set_option linter.unusedVariables false
set_option linter.unusedSimpArgs false

theorem rd_at_int (l : List Int) (i : Nat) (h : i < l.length) : rd l i = l[i] := by
  simp [rd, List.getD_eq_getElem?_getD, List.getElem?_eq_getElem h]

def slices_Clone_int.f (l0 : List (Int)) : Option (List (Int)) := if l0.length < 17592186044416 then some l0 else none
set_option maxHeartbeats 1000000 in
theorem slices_Clone_int.calls (A0 : Option Addr) (c0 : Nat) (l0 : List (Int)) (r : List (Int)) (w : World) (hr0 : Kd.C (Kd.int .i64) w A0 l0.length l0) (hc0 : l0.length ≤ c0) (h : slices_Clone_int.f l0 = some r) :
    Calls Try.prog 37 #[.slice A0 l0.length c0] w fun e w' => ∃ v0_ : Value, e = .returned (v0_) ∧ Kd.R (Kd.int .i64) 3 w' w.heap.size (fun _ => True) v0_ r ∧ Below w.heap.size w w' := by
  have HR0 := Aside0.mk hr0
  have HC0 := Aside0.mk hc0
  clear hr0 hc0
  have HB := Aside0.mk (Below.refl w.heap.size w)
  unfold slices_Clone_int.f at h
  split at h <;> simp at h
  subst h
  rename_i hl
  have HL := Aside0.mk hl
  clear hl
  have hnil := fun (W : World) => Lib.run_eql_slice_nil (P := Try.prog) W 38 3 A0 l0.length c0 0 0 Try.underlying38
  cases A0 with
  | none =>
    go_enter Try.func37, Try.ntmps37
    go_wp2
    go_ret
    have h0 : l0 = [] := by
      cases l0 with
      | nil => rfl
      | cons x l =>
        obtain ⟨ad, e, _⟩ := HR0.out.2.2 (by simp)
        cases e
    subst h0
    exact ⟨_, rfl, Kd.R_nil _ _ _ _ _, HB.out⟩
  | some a =>
    have HE := Aside0.mk (R_empty (Kd.int .i64) 3 w w.heap.size (fun _ => True) (Nat.le_refl _) trivial)
    go_enter Try.func37, Try.ntmps37
    go_wp2_with (first | (at_builtin; refine Kd.R_append_rows (Kd.int .i64) (w0 := w) w.heap.size rfl (.tmp 5) (.tmp 6) 38 3 ((.int .i64 0)) 8 rfl Try.underlying38 info3 rfl (by decide) (by omega) _ ([] : List (Int)) l0 _ _ _ (fun _ => True) (fun _ => False) rfl rfl HE.out (Kd.C_below HR0.out (below_alloc HB.out _)) (fun _ _ h => h) (fun _ h => h.elim) (fun _ _ => trivial) (below_alloc HB.out _) (by simp) (by have := HL.out; simp; omega) ?_; intro v125 w3 ho hb hg hat; have HO := Aside0.mk ho; have HB3 := Aside0.mk hb; clear ho hb hg hat))
    go_ret
    exact ⟨_, rfl, HO.out, HB3.out⟩

set_option maxHeartbeats 1000000 in
theorem slices_IndexFunc_int.calls (fid : Nat) (caps : Array Value) (p : (Int) → Bool) (A0 : Option Addr) (c0 : Nat) (l0 : List (Int)) (w : World) (hr0 : Kd.C (Kd.int .i64) w A0 l0.length l0) (hc0 : l0.length ≤ c0)
    (eg : ∀ args w, (callFunc fid args).run Try.prog w = .ok (.enter fid args) w)
    (hp : ∀ x ∈ l0, ∀ w1, Below w.heap.size w w1 → Calls Try.prog fid (#[.int .i64 x] ++ caps) w1 fun e w' => e = .returned (.bool (p x)) ∧ Below w1.heap.size w1 w') :
    Calls Try.prog 46 #[.slice A0 l0.length c0, .func (.func fid) #[] caps] w fun e w' => e = .returned (.int .i64 (idxOf p l0)) ∧ Below w.heap.size w w' := by
  have HR0 := Aside0.mk hr0
  have HC0 := Aside0.mk hc0
  have HP := Aside0.mk hp
  clear hr0 hc0 hp
  have HB := Aside0.mk (Below.refl w.heap.size w)
  go_enter Try.func46, Try.ntmps46
  go_wp2
  go_loopw [8] (fun v8 w' => ∃ i : Nat, v8 = .int .i64 i ∧ Aside0 (i ≤ l0.length ∧ ∀ j, (hj : j < l0.length) → j < i → p l0[j] = false) ∧ Aside0 (Below w.heap.size w w')) (fun v _ => l0.length - (intOf v).toNat)
  case atStart => exact ⟨0, rfl, ⟨by omega, by intros; omega⟩, HB⟩
  case round =>
    obtain ⟨i, rfl, HI, HB1⟩ := hrel
    clear HB
    have hlen := HR0.out.2.1
    by_cases hlt : i < l0.length
    · obtain ⟨ad, e1, hx0⟩ := Kd.at_int HR0.out i (by omega) (by omega)
      cases e1
      replace hx0 := (HB1.out.cell (World.block_lt_of_cell? w _ hx0)).trans hx0
      simp only [Int.toNat_natCast] at hx0
      have hrd := Aside0.mk (rd_at_int l0 i hlt)
      have hmem : rd l0 i ∈ l0 := by rw [hrd.out]; exact List.getElem_mem _
      have HCALL := Aside0.mk (HP.out (rd l0 i) hmem)
      clear hmem
      cases hpx : p (rd l0 i) with
      | true =>
        rw [hpx] at HCALL
        have HX := Aside0.mk hpx
        clear hpx
        go_wp2
        refine (HCALL.out _ HB1.out).mono ?_
        rintro e w2 ⟨rfl, hb2⟩
        have HB2 := Aside0.mk (below_then HB1.out HB1.out.size hb2)
        clear hb2
        go_wp2
        go_ret
        refine ⟨?_, HB2.out⟩
        rw [idxOf_hit p l0 i hlt (by rw [← hrd.out]; exact HX.out) (fun j hj h => HI.out.2 j hj h)]; rfl
      | false =>
        rw [hpx] at HCALL
        have HX := Aside0.mk hpx
        clear hpx
        go_wp2
        refine (HCALL.out _ HB1.out).mono ?_
        rintro e w2 ⟨rfl, hb2⟩
        have HB2 := Aside0.mk (below_then HB1.out HB1.out.size hb2)
        clear hb2
        go_wp2
        go_roundw
        case rel =>
          refine ⟨i + 1, by go_num, ⟨by omega, fun j hj h => ?_⟩, HB2⟩
          rcases Nat.lt_succ_iff_lt_or_eq.1 h with h | rfl
          · exact HI.out.2 j hj h
          · rw [← hrd.out]; exact HX.out
        case measure => simp [intOf]; omega
    · go_wp2
      go_ret
      refine ⟨?_, HB1.out⟩
      rw [idxOf_none p l0 (fun j hj => HI.out.2 j hj (by omega))]; rfl

set_option maxHeartbeats 2000000 in
theorem slices_DeleteFunc_int.calls (fid : Nat) (caps : Array Value) (p : (Int) → Bool) (g n cap : Nat) (base : Nat) (ok : Nat → Prop) (l0 : List (Int)) (w : World)
    (ho : Kd.R (Kd.int .i64) 3 w base ok (.slice (some ⟨g, 0, none⟩) n cap) l0)
    (eg : ∀ args w, (callFunc fid args).run Try.prog w = .ok (.enter fid args) w)
    (hp : ∀ x ∈ l0, ∀ w1, w.grownBy w1 (some g) → Calls Try.prog fid (#[.int .i64 x] ++ caps) w1 fun e w' => e = .returned (.bool (p x)) ∧ Below w1.heap.size w1 w') :
    Calls Try.prog 36 #[.slice (some ⟨g, 0, none⟩) n cap, .func (.func fid) #[] caps] w fun e w' => ∃ m, e = .returned (.slice (some ⟨g, 0, none⟩) m cap) ∧ Kd.R (Kd.int .i64) 3 w' base ok (.slice (some ⟨g, 0, none⟩) m cap) (l0.filter (fun x => !p x)) ∧ w.grownBy w' (some g) := by
  obtain ⟨hn, hnc, hC⟩ := Kd.R_reads' ho
  subst hn
  have HO := Aside0.mk ho
  have HC := Aside0.mk hC
  have HP := Aside0.mk hp
  have HNC := Aside0.mk hnc
  have hlen := hC.2.1
  clear ho hC hp
  rcases idxOf_cases p l0 with ⟨hi, hall⟩ | ⟨i0, hi, hi1, hi2, hi3⟩
  · have HI := Aside0.mk hi
    have HA := Aside0.mk hall
    clear hi hall
    go_enter Try.func36, Try.ntmps36
    go_wp2_with (first | (go_at_call 46; refine (slices_IndexFunc_int.calls fid caps p (some ⟨g, 0, none⟩) cap l0 _ HC.out HNC.out eg (fun x hx w1 hb => HP.out x hx w1 (grown_of_below hb _))).mono ?_; rintro e w1 ⟨rfl, hb⟩; rw [HI.out]; have HB1 := Aside0.mk hb; clear hb))
    go_ret
    refine ⟨_, rfl, ?_, grown_of_below HB1.out _⟩
    rw [filter_all p l0 HA.out]
    exact Kd.R_below HO.out HB1.out
  · have HI := Aside0.mk hi
    have HX := Aside0.mk hi2
    have HA := Aside0.mk hi3
    have hne : ((i0 : Int) == -1) = false := by rw [beq_eq_false_iff_ne]; omega
    clear hi hi2 hi3
    go_enter Try.func36, Try.ntmps36
    go_wp2_with (first | (go_at_call 46; refine (slices_IndexFunc_int.calls fid caps p (some ⟨g, 0, none⟩) cap l0 _ HC.out HNC.out eg (fun x hx w1 hb => HP.out x hx w1 (grown_of_below hb _))).mono ?_; rintro e w1 ⟨rfl, hb⟩; rw [HI.out]; have HB1 := Aside0.mk hb; clear hb))
    go_loopw [5, 6] (fun v5 v6 w' => ∃ (i j : Nat) (xs : List (Int)), v5 = .int .i64 i ∧ v6 = .int .i64 j ∧ Aside0 (i < j ∧ j ≤ l0.length ∧ xs.length = l0.length ∧ xs.take i = (l0.take j).filter (fun x => !p x) ∧ xs.drop j = l0.drop j) ∧ Aside0 (Kd.R (Kd.int .i64) 3 w' base ok (.slice (some ⟨g, 0, none⟩) l0.length cap) xs) ∧ Aside0 (w.grownBy w' (some g))) (fun _ v _ => l0.length - (intOf v).toNat)
    case atStart =>
      refine ⟨i0, i0 + 1, l0, rfl, by go_num, ⟨by omega, by omega, rfl, ?_, rfl⟩, ⟨Kd.R_below HO.out HB1.out⟩, ⟨grown_of_below HB1.out _⟩⟩
      rw [filter_take_step p l0 i0 hi1, HX.out]
      simp [filter_take_none p l0 i0 HA.out]
    case round =>
      obtain ⟨i, j, xs, rfl, rfl, HJ, HO1, HG1⟩ := hrel
      clear HO HC HB1 HA HX HI hi1
      by_cases hlt : j < l0.length
      · obtain ⟨ce, hcl, hM, hcc, hfr⟩ := Kd.R_elem HO1.out 0 j (by omega) (by omega)
        obtain rfl := Kd.int_openM hM
        have hx0 : wr.cell? ⟨g, j, none⟩ = some (.int .i64 (rd xs j)) := (by have h9 := hcc 0 _ rfl; rw [show (Kd.int .i64).sz = 1 from rfl, Nat.mul_one, Nat.add_zero, Int.toNat_natCast] at h9; exact h9)
        clear hcl hM hcc hfr
        have hrd := Aside0.mk (show rd xs j = l0[j] from by
          have h5 := HJ.out.2.2.2.2
          have h3 := HJ.out.2.2.1
          rw [rd_at_int xs j (by omega)]
          have : (xs.drop j)[0]? = (l0.drop j)[0]? := by rw [h5]
          simpa [List.getElem?_drop, List.getElem?_eq_getElem hlt, List.getElem?_eq_getElem (show j < xs.length by omega)] using this)
        have hin : i < l0.length := by have := HJ.out; omega
        have HCALL := Aside0.mk (HP.out (rd xs j) (by rw [hrd.out]; exact List.getElem_mem _))
        obtain ⟨ce2, hcl2, hM2, hcc2, hfr2⟩ := Kd.R_elem HO1.out 0 i (by omega) (by have := HJ.out; omega)
        obtain rfl := Kd.int_openM hM2
        have hy0 : wr.cell? ⟨g, i, none⟩ = some (.int .i64 (rd xs i)) := (by have h9 := hcc2 0 _ rfl; rw [show (Kd.int .i64).sz = 1 from rfl, Nat.mul_one, Nat.add_zero, Int.toNat_natCast] at h9; exact h9)
        have hz0 : wr.frozen? ⟨g, i, none⟩ = false := (by have h9 := hfr2 0; rw [show (Kd.int .i64).sz = 1 from rfl, Nat.mul_one, Nat.add_zero, Int.toNat_natCast] at h9; exact h9)
        clear hcl2 hM2 hcc2 hfr2
        have HWA := Aside0.mk (show wr.grownBy wr (some g) from grown_of_below (Below.refl _ _) _)
        cases hpx : p (rd xs j) with
        | true =>
          rw [hpx] at HCALL
          have HX := Aside0.mk hpx
          clear hpx
          go_wp2
          refine (HCALL.out _ (HG1.out.trans HWA.out)).mono ?_
          rintro e w2 ⟨rfl, hb2⟩
          have HB2 := Aside0.mk hb2
          clear hb2 hx0 hy0 hz0
          go_wp2
          go_roundw
          case rel =>
            refine ⟨i, j + 1, xs, rfl, by go_num, ⟨by have := HJ.out; omega, by omega, HJ.out.2.2.1, ?_, ?_⟩, ⟨Kd.R_below (HO1.out) HB2.out⟩, ⟨(HG1.out.trans HWA.out).trans (grown_of_below HB2.out _)⟩⟩
            · rw [filter_take_step p l0 j hlt, ← hrd.out, HX.out, HJ.out.2.2.2.1]; simp
            · rw [← List.drop_drop, HJ.out.2.2.2.2, List.drop_drop]
          case measure => simp [intOf]; omega
        | false =>
          rw [hpx] at HCALL
          have HX := Aside0.mk hpx
          clear hpx
          go_wp2
          refine (HCALL.out _ (HG1.out.trans HWA.out)).mono ?_
          rintro e w2 ⟨rfl, hb2⟩
          have HB2 := Aside0.mk hb2
          have hv0 := True.intro
          clear hx0 hy0 hz0
          clear hb2
          have HO2 := Aside0.mk (Kd.R_below (HO1.out) HB2.out)
          obtain ⟨ce3, hcl3, hM3, hcc3, hfr3⟩ := Kd.R_elem HO2.out 0 i (by omega) (by omega)
          have hseg := Kd.R_seg HO2.out (i : Int) (by omega) (by omega) (seg := [.int .i64 (rd xs j)]) (j := 0) hcl3 hcc3 (show 1 ≤ 1 from by decide) (x' := rd xs j) (okp := fun k => ok k ∧ k ≠ g) (by
            have hl2 : ce3.length = 1 := hcl3
            have : List.drop 1 ce3 = [] := List.drop_eq_nil_of_le (by omega)
            simp only [List.take_zero, List.nil_append, List.length_cons, List.length_nil, Nat.zero_add, Nat.reduceAdd, this, List.append_nil]
            exact Kd.int_mkM _ _ _ (rd xs j)) (fun _ hk => hk)
          rw [show (Kd.int .i64).sz = 1 from rfl, Nat.mul_one, Nat.add_zero, Int.toNat_natCast] at hseg
          obtain ⟨hR3, hG3⟩ := hseg
          have HR3 := Aside0.mk hR3
          have HG3 := Aside0.mk hG3
          obtain rfl := Kd.int_openM hM3
          have hy0 : w2.cell? ⟨g, i, none⟩ = some (.int .i64 (rd xs i)) := (by have h9 := hcc3 0 _ rfl; rw [show (Kd.int .i64).sz = 1 from rfl, Nat.mul_one, Nat.add_zero, Int.toNat_natCast] at h9; exact h9)
          have hz0 : w2.frozen? ⟨g, i, none⟩ = false := (by have h9 := hfr3 0; rw [show (Kd.int .i64).sz = 1 from rfl, Nat.mul_one, Nat.add_zero, Int.toNat_natCast] at h9; exact h9)
          clear hR3 hG3 hcl3 hM3 hcc3 hfr3
          go_wp2
          go_roundw
          case rel =>
            refine ⟨i + 1, j + 1, xs.set i (rd xs j), by go_num, by go_num, ⟨by have := HJ.out; omega, by omega, by rw [List.length_set]; exact HJ.out.2.2.1, ?_, ?_⟩, ⟨HR3.out⟩, ⟨((HG1.out.trans HWA.out).trans (grown_of_below HB2.out _)).trans HG3.out⟩⟩
            · have h3 := HJ.out.2.2.1
              rw [filter_take_step p l0 j hlt, ← hrd.out, HX.out, ← HJ.out.2.2.2.1]
              rw [List.take_succ_eq_append_getElem (by rw [List.length_set]; omega), List.take_set_of_le (Nat.le_refl _)]
              simp
            · rw [List.drop_set_of_lt (by have := HJ.out; omega), ← List.drop_drop, HJ.out.2.2.2.2, List.drop_drop]
          case measure => simp [intOf]; omega
      · have hje : j = l0.length := by have := HJ.out; omega
        have hin : i < l0.length := by have := HJ.out; omega
        have hic : ((i : Int) == (cap : Int)) = false := by rw [beq_eq_false_iff_ne]; have := HNC.out; omega
        obtain ⟨w3, hrun, hR3, hG3⟩ := clear_row (P := Try.prog) (t := 38) (ty := 0) (z := (.int .i64 0)) (c := cap - i) (Kd.int .i64) (by decide) Try.underlying38 Try.zeroValue3 rfl (by decide) HO1.out hin
        have HR3 := Aside0.mk hR3
        have HG3 := Aside0.mk hG3
        clear hR3 hG3
        rw [show ((Kd.int .i64)).sz = 1 from rfl, Nat.mul_one] at hrun
        go_wp2
        go_ret
        refine ⟨i, rfl, ?_, HG1.out.trans HG3.out⟩
        have h4 := HJ.out.2.2.2.1
        rw [hje, List.take_length] at h4
        rw [← h4]
        exact HR3.out
end Go.Proofs.Ytgnaippmncnlaaa.P
namespace Go.Proofs.Ytgnaippmncnlaaa.P
open Go.RowKit Go.Proofs.YtgnaippmncnlaaaW.PrintWords Go.Proofs.YtgnaippmncnlaaaW.PrintLast Go.Proofs.YtgnaippmncnlaaaW.PrintMore Go.Proofs.YtgnaippmncnlaaaW.HB
set_option linter.unusedVariables false

def packI (ks : List Int) (i : Nat) : List S47 := (ks.take i).foldl (fun out k => packStep out k.toNat true) []
theorem packI_succ (ks : List Int) (i : Nat) (h : i < ks.length) : packI ks (i + 1) = packStep (packI ks i) (rd ks i).toNat true := by
  unfold packI
  rw [List.take_succ_eq_append_getElem h, List.foldl_append, rd_at_int ks i h]
  rfl
def rising (ks : List Int) : Bool := decide (ks.length ≤ 4294967296) && ks.all (fun k => decide (0 ≤ k ∧ k < 65536)) && decide (ks.Pairwise (· < ·))
theorem rising_mem {ks : List Int} (h : rising ks = true) : ∀ k ∈ ks, 0 ≤ k ∧ k < 65536 := by
  simp only [rising, Bool.and_eq_true, List.all_eq_true, decide_eq_true_eq] at h
  exact h.1.2
theorem rising_len {ks : List Int} (h : rising ks = true) : ks.length ≤ 4294967296 := by
  simp only [rising, Bool.and_eq_true, decide_eq_true_eq] at h
  exact h.1.1
theorem rising_lt {ks : List Int} (h : rising ks = true) : ks.Pairwise (· < ·) := by
  simp only [rising, Bool.and_eq_true, decide_eq_true_eq] at h
  exact h.2
theorem packI_ok (ks : List Int) (hk : ∀ k ∈ ks, 0 ≤ k ∧ k < 65536) : ∀ i, i ≤ ks.length → (packI ks i).length ≤ i ∧ ∀ x ∈ packI ks i, 0 ≤ x.f0 ∧ 1 ≤ x.f1 ∧ x.f0 + x.f1 ≤ 65536
  | 0, _ => by simp [packI]
  | i + 1, hi => by
    obtain ⟨h1, h2⟩ := packI_ok ks hk i (by omega)
    rw [packI_succ ks i (by omega), packStep_true]
    have hr : 0 ≤ rd ks i ∧ rd ks i < 65536 := hk _ (by rw [rd_at_int ks i (by omega)]; exact List.getElem_mem _)
    split
    · rename_i h
      refine ⟨by rw [List.length_set]; omega, fun x hx => ?_⟩
      rcases List.mem_or_eq_of_mem_set hx with hx | rfl
      · exact h2 x hx
      · have hm : rd_T47 (packI ks i) (((packI ks i).length : Int) - 1) ∈ packI ks i := by
          have : (((packI ks i).length : Int) - 1) = (((packI ks i).length - 1 : Nat) : Int) := by omega
          rw [this, rd_at_E _ _ (by omega)]; exact List.getElem_mem _
        have := h2 _ hm
        dsimp only
        omega
    · refine ⟨by simp; omega, fun x hx => ?_⟩
      rcases List.mem_append.1 hx with hx | hx
      · exact h2 x hx
      · simp at hx; subst hx; dsimp only; omega
theorem sort_rising {ks : List Int} (h : rising ks = true) : (ks.mergeSort fun x y => decide (x ≤ y)) = ks :=
  List.mergeSort_of_pairwise ((rising_lt h).imp (fun {a b} hab => decide_eq_true (Int.le_of_lt hab)))
theorem compact_rising {ks : List Int} (h : rising ks = true) : Lib.compact ks = ks := by
  refine Lib.compact_all ks (fun j hj => ?_)
  rcases Nat.eq_zero_or_pos j with rfl | hp
  · simp [Lib.keeps]
  · have := (List.pairwise_iff_getElem.1 (rising_lt h)) (j - 1) j (by omega) hj (by omega)
    refine Lib.keeps_pos ?_
    rw [getElem!_pos ks.toArray j (by simpa using hj), getElem!_pos ks.toArray (j - 1) (by simp; omega)]
    simp
    omega
def extent_Pack.f (l : List Int) : Option (List S47) := if rising l = true then some (packI l l.length) else none
theorem slices_DeleteFunc_int.empty (fid : Nat) (caps : Array Value) (A : Option Addr) (c : Nat) (w : World) (eg : ∀ args w, (callFunc fid args).run Try.prog w = .ok (.enter fid args) w) (hC : Kd.C (Kd.int .i64) w A 0 ([] : List Int)) :
    Calls Try.prog 36 #[.slice A 0 c, .func (.func fid) #[] caps] w fun e w' => e = .returned (.slice A 0 c) ∧ Below w.heap.size w w' := by
  have HC := Aside0.mk hC
  clear hC
  have hi : idxOf (fun _ : Int => false) [] = -1 := rfl
  go_enter Try.func36, Try.ntmps36
  go_wp2_with (first | (go_at_call 46; refine (slices_IndexFunc_int.calls fid caps (fun _ => false) A c [] _ HC.out (Nat.zero_le _) eg (fun x hx => absurd hx (by simp))).mono ?_; rintro e w1 ⟨rfl, hb⟩; have HB := Aside0.mk hb; clear hb; rw [hi]))
  go_ret
  exact ⟨rfl, HB.out⟩
theorem extent_Pack_1.calls (k : Int) (w : World) (h : 0 ≤ k ∧ k < 65536) :
    Calls Try.prog 38 #[.int .i64 k] w fun e w' => e = .returned (.bool false) ∧ Below w.heap.size w w' := by
  have e1 : decide (k < 0) = false := decide_eq_false (by omega)
  have e2 : decide (65536 ≤ k) = false := decide_eq_false (by omega)
  have f1 : ¬ k < 0 := by omega
  have f2 : ¬ 65536 ≤ k := by omega
  go_enter Try.func38, Try.ntmps38
  go_wp2
  go_ret
  exact ⟨rfl, Below.refl _ _⟩
theorem delI_keep (A : Option Addr) (c : Nat) (base : Nat) (ok : Nat → Prop) (l : List Int) (w : World) (hR : Kd.R (Kd.int .i64) 3 w base ok (.slice A l.length c) l) (hgm : ∀ x ∈ l, 0 ≤ x ∧ x < 65536) :
    Calls Try.prog 36 #[.slice A l.length c, .func (.func 38) #[] #[]] w fun e w' => ∃ A' c', e = .returned (.slice A' l.length c') ∧ Kd.R (Kd.int .i64) 3 w' base ok (.slice A' l.length c') l ∧ ∃ row, w.grownBy w' row ∧ ∀ k, row = some k → (Value.slice A l.length c).ownBlock = some k := by
  have hen := Go.Proofs.enters_of Try.func38 (by kernel_rfl) rfl
  rcases Nat.eq_zero_or_pos l.length with h0 | hpos
  · obtain rfl := List.eq_nil_of_length_eq_zero h0
    refine (slices_DeleteFunc_int.empty 38 #[] A c w hen (Kd.R_reads' hR).2.2).mono ?_
    rintro e w1 ⟨rfl, hb⟩
    exact ⟨A, c, rfl, Kd.R_below hR hb, none, grown_of_below hb _, fun k e => by cases e⟩
  · obtain ⟨g, c', he, hgb, hgl, hgc⟩ := Kd.R_form hR hpos
    injection he with he1 _ he3
    subst he1 he3
    have hfil : l.filter (fun x => !(fun _ : Int => false) x) = l := by simp
    refine (slices_DeleteFunc_int.calls 38 #[] (fun _ => false) g l.length c base ok l w hR hen (fun x hx w1 _ => ?_)).mono ?_
    · exact extent_Pack_1.calls x w1 (hgm x hx)
    · rintro e w1 ⟨m, rfl, hR1, hG⟩
      rw [hfil] at hR1
      have hm : m = l.length := (Kd.R_reads' hR1).1
      subst hm
      exact ⟨_, _, rfl, hR1, _, hG, fun k e => e⟩
theorem own_base6 {α : Type} {d : Kd α} {e : Nat} {w : World} {base : Nat} {ok : Nat → Prop} {v : Value} {xs : List α} (h : d.R e w base ok v xs) (k : Nat) (hk : v.ownBlock = some k) : base ≤ k := ((Kd.R_bound h).1 k hk).2.1
set_option maxRecDepth 100000 in
set_option maxHeartbeats 4000000 in
theorem extent_Pack.calls (A0 : Option Addr) (c0 : Nat) (l0 : List Int) (r : List S47) (w : World) (hr0 : Kd.C (Kd.int .i64) w A0 l0.length l0) (hc0 : l0.length ≤ c0) (h : extent_Pack.f l0 = some r) :
    Calls Try.prog 21 #[.slice A0 l0.length c0] w fun e w' => ∃ v0_ : Value, e = .returned v0_ ∧ Kd.R k47 47 w' w.heap.size (fun _ => True) v0_ r ∧ Below w.heap.size w w' := by
  unfold extent_Pack.f at h
  split at h
  case isFalse => cases h
  rename_i hg
  obtain rfl := Option.some.inj h
  clear h
  have hl := rising_len hg
  have HM := Aside0.mk (rising_mem hg)
  have HSO := Aside0.mk (sort_rising hg)
  have HCO := Aside0.mk (compact_rising hg)
  have HOK := Aside0.mk (packI_ok l0 (rising_mem hg))
  have HR0 := Aside0.mk hr0
  have HC0 := Aside0.mk hc0
  have HL := Aside0.mk hl
  clear hr0 hc0 hg
  go_enter Try.func21, Try.ntmps21
  go_wp2_with (first
    | (go_at_call 37; refine (slices_Clone_int.calls A0 c0 l0 l0 _ HR0.out HC0.out (by unfold slices_Clone_int.f; rw [if_pos (by have := HL.out; omega)])).mono ?_; rintro e w1 ⟨v, rfl, hR, hW⟩; obtain ⟨Av, cv, rfl⟩ := Kd.R_slice hR; have HR := Aside0.mk hR; have HW := Aside0.mk hW; clear hR hW)
    | (go_at_call 36; refine (delI_keep Av cv w.heap.size (fun _ => True) l0 _ HR.out HM.out).mono ?_; rintro e w2 ⟨A2, c2, rfl, hR, row, hg, hrow⟩; have HR2 := Aside0.mk hR; have HW2 := Aside0.mk (pw_below_grown HW.out row HW.out.size hg (fun k hk => own_base6 HR.out k (hrow k hk))); clear hR hg hrow HR HW)
    | (go_at_call 39; refine (sort_R A2 c2 l0 3 w.heap.size (fun _ => True) _ HR2.out (by have := HL.out; omega)).mono ?_; rintro e w3 ⟨rfl, hR, row, hg, hrow⟩; rw [HSO.out] at hR; have HR3 := Aside0.mk hR; have HW3 := Aside0.mk (pw_below_grown HW2.out row HW2.out.size hg (fun k hk => own_base6 HR2.out k (hrow k hk))); clear hR hg hrow HR2 HW2)
    | (go_at_call 40; refine (compact_R A2 c2 l0 3 w.heap.size (fun _ => True) _ HR3.out (by have := HL.out; omega)).mono ?_; rintro e w4 ⟨rfl, hR, row, hg, hrow⟩; rw [HCO.out] at hR ⊢; have HR4 := Aside0.mk hR; have HW4 := Aside0.mk (pw_below_grown HW3.out row HW3.out.size hg (fun k hk => own_base6 HR3.out k (hrow k hk))); clear hR hg hrow HR3 HW3))
  have HC4 := Aside0.mk (Kd.R_reads' HR4.out).2.2
  clear HR4
  have hlb : l0.length ≤ 9223372036854775807 := by omega
  go_loopw [4, 16] (fun v4 v16 wr => ∃ i : Nat, v16 = .int .i64 i ∧ Aside0 (i ≤ l0.length) ∧ Aside0 (Kd.R k47 47 wr w4.heap.size (fun _ => True) v4 (packI l0 i)) ∧ Aside0 (Below w4.heap.size w4 wr)) (fun _ v _ => l0.length - (intOf v).toNat)
  case atStart => exact ⟨0, rfl, ⟨by omega⟩, ⟨Kd.R_nil _ _ _ _ _⟩, ⟨Below.refl _ _⟩⟩
  case round =>
    obtain ⟨i, rfl, HI, HRr, HBr⟩ := hrel
    obtain ⟨Ao, co, rfl⟩ := Kd.R_slice HRr.out
    by_cases hlt : i < l0.length
    · obtain ⟨ad, e1, hx0⟩ := Kd.at_int HC4.out i (by omega) (by omega)
      cases e1
      replace hx0 := (HBr.out.cell (World.block_lt_of_cell? w4 _ hx0)).trans hx0
      simp only [Int.toNat_natCast] at hx0
      have hrd : 0 ≤ rd l0 i ∧ rd l0 i < 65536 := HM.out _ (by rw [rd_at_int l0 i hlt]; exact List.getElem_mem _)
      have HTN := Aside0.mk (show ((rd l0 i).toNat : Int) = rd l0 i from by omega)
      have hsucc := Aside0.mk ((packI_succ l0 i hlt).trans (packStep_true _ _))
      have HOL := Aside0.mk (show (packI l0 i).length ≤ 4294967296 from by have := (HOK.out i (by omega)).1; omega)
      have hok := Aside0.mk (HOK.out i (by omega))
      generalize hk0 : rd l0 i = kk at *
      have HK0 := Aside0.mk hk0
      clear hk0
      by_cases hpos : 0 < (packI l0 i).length
      · obtain ⟨go, co', he, hgb, hgl, hgc⟩ := Kd.R_form HRr.out hpos
        injection he with he1 _ he3
        subst he1 he3
        obtain ⟨ce, hcl, hM, hcc, hfr⟩ := Kd.R_elem HRr.out z47 (((packI l0 i).length : Int) - 1) (by omega) (by omega)
        obtain rfl := k47_openM hM
        obtain ⟨p, hp⟩ : ∃ p, (packI l0 i).length = p + 1 := ⟨(packI l0 i).length - 1, by omega⟩
        have hpi : (((packI l0 i).length : Int) - 1) = (p : Int) := by omega
        have HPI := Aside0.mk hpi
        have HP := Aside0.mk hp
        have hy0 : wr.cell? ⟨go, p * 2, none⟩ = some (.int .i64 (rd_T47 (packI l0 i) p).f0) := by have := hcc 0 _ rfl; rw [hpi] at this; exact this
        have hy1 : wr.cell? ⟨go, p * 2 + 1, none⟩ = some (.int .i64 (rd_T47 (packI l0 i) p).f1) := by have := hcc 1 _ rfl; rw [hpi] at this; exact this
        have hz1 : wr.frozen? ⟨go, p * 2 + 1, none⟩ = false := by have := hfr 1; rw [hpi] at this; exact this
        have hmem : rd_T47 (packI l0 i) p ∈ packI l0 i := by rw [rd_at_E _ _ (by omega)]; exact List.getElem_mem _
        obtain ⟨hq1, hq2, hq3⟩ := hok.out.2 _ hmem
        have hcap := (Kd.R_reads' HRr.out).2.1
        have HR2 := Aside0.mk HRr.out
        have hpl : p < 4294967296 := by have := HOL.out; omega
        rw [hp] at HR2 hcap
        rw [hpi] at hsucc
        have HWP := Aside0.mk (show wrap64 (p : Int) = p from by unfold wrap64; omega)
        have HWQ := Aside0.mk (wrap_small ((rd_T47 (packI l0 i) p).f0 + (rd_T47 (packI l0 i) p).f1) (by omega) (by omega))
        have hgob := hgb
        clear hcl hM hcc hfr hgb hgc hmem hpi HRr
        have hd0 : decide ((0 : Int) < (p : Int) + 1) = true := decide_eq_true (by omega)
        have hd1 : decide ((p : Int) < (p : Int) + 1) = true := decide_eq_true (by omega)
        have hd2 : (p : Int) < (p : Int) + 1 := by omega
        generalize hf0 : (rd_T47 (packI l0 i) p).f0 = y0 at *
        generalize hf1 : (rd_T47 (packI l0 i) p).f1 = y1 at *
        have HF0 := Aside0.mk hf0
        have HF1 := Aside0.mk hf1
        clear hf0 hf1
        have HB0 := Aside0.mk (fun h : (y0 + y1 == kk) = true => (hsucc.out.trans (if_pos ⟨hpos, (beq_iff_eq.1 h).trans HTN.out.symm⟩)))
        have HB1 := Aside0.mk (fun h : (y0 + y1 == kk) = false => (hsucc.out.trans (if_neg (fun h2 => (beq_eq_false_iff_ne.1 h) (h2.2.trans HTN.out)))))
        clear hsucc
        rw [hp]
        clear hp
        generalize hmq : (y0 + y1 == kk) = bq at *
        go_wp2_with fail
        go_quiet (fail)
        clear HWP HWQ hmq
        cases bq with
        | true =>
          have HS := Aside0.mk (HB0.out rfl)
          clear HB0 HB1
          go_wp2_with fail
          go_roundw
          case rel =>
            have hst := set_f1 (Kd.R_drewN HR2.out nq) p (by omega) (y1 + 1)
            rw [HF0.out] at hst
            refine ⟨i + 1, by go_num, ⟨by omega⟩, ⟨?_⟩, ⟨pw_below_grown (pw_below_drewN HBr.out nq) _ (pw_below_drewN HBr.out nq).size hst.2 (fun k e => by cases e; exact hgob)⟩⟩
            rw [HS.out]
            have e : (packI l0 i).length - 1 = p := by have := HP.out; omega
            rw [e]
            exact hst.1
          case measure => simp [intOf]; omega
        | false =>
              have HS := Aside0.mk (HB1.out rfl)
              clear HB0 HB1 hd0 hd1 hd2 hy0 hy1 hz1
              have HONE := Aside0.mk (Kd.R_reads' (R_one (d := k47) (e := 47) (w := wr.drewN nq) (base := w4.heap.size) (ok := fun _ => True) (x := ⟨kk, 1⟩) (cs := #[.int .i64 (kk), .int .i64 1]) (k47_mkM _ _ _ (⟨kk, 1⟩ : S47)) HBr.out.size trivial)).2.2
              have HR3 := Aside0.mk (Kd.R_alloc (Kd.R_drewN HR2.out nq) (.cells #[.int .i64 (kk), .int .i64 1] 47))
              go_wp2_with (first | (at_builtin; refine Kd.R_append_rows k47 (w0 := w4) w4.heap.size rfl (.tmp 50) (.tmp 53) 22 47 (.agg #[(.int .i64 0), (.int .i64 0)]) 16 rfl Try.underlying22 info47 rfl (by decide) (by omega) _ (packI l0 i) [(⟨kk, 1⟩ : S47)] _ _ _ (fun _ => True) (fun _ => False) rfl rfl HR3.out HONE.out (fun _ _ h => h) (fun _ h => h.elim) (fun _ _ => trivial) (below_alloc (pw_below_drewN HBr.out _) _) (by have := HBr.out.size; simp; omega) (by have := HOL.out; simp; omega) ?_; intro v6 w6 ho hb hg hat; have HO6 := Aside0.mk ho; have HB6 := Aside0.mk hb; clear ho hb hg hat))
              go_roundw
              case rel =>
                refine ⟨i + 1, by go_num, ⟨by omega⟩, ⟨?_⟩, HB6⟩
                rw [HS.out, HTN.out]
                exact HO6.out
              case measure => simp [intOf]; omega
      ·       have hz : (packI l0 i).length = 0 := by omega
              have HS := Aside0.mk (hsucc.out.trans (if_neg (fun h => hpos h.1)))
              have HR2 := Aside0.mk HRr.out
              rw [hz] at HR2
              clear hsucc HRr hpos
              rw [hz]
              clear hz
              go_wp2_with fail
              go_quiet (fail)
              have HONE := Aside0.mk (Kd.R_reads' (R_one (d := k47) (e := 47) (w := wr.drewN nq) (base := w4.heap.size) (ok := fun _ => True) (x := ⟨kk, 1⟩) (cs := #[.int .i64 (kk), .int .i64 1]) (k47_mkM _ _ _ (⟨kk, 1⟩ : S47)) HBr.out.size trivial)).2.2
              have HR3 := Aside0.mk (Kd.R_alloc (Kd.R_drewN HR2.out nq) (.cells #[.int .i64 (kk), .int .i64 1] 47))
              go_wp2_with (first | (at_builtin; refine Kd.R_append_rows k47 (w0 := w4) w4.heap.size rfl (.tmp 50) (.tmp 53) 22 47 (.agg #[(.int .i64 0), (.int .i64 0)]) 16 rfl Try.underlying22 info47 rfl (by decide) (by omega) _ (packI l0 i) [(⟨kk, 1⟩ : S47)] _ _ _ (fun _ => True) (fun _ => False) rfl rfl HR3.out HONE.out (fun _ _ h => h) (fun _ h => h.elim) (fun _ _ => trivial) (below_alloc (pw_below_drewN HBr.out _) _) (by have := HBr.out.size; simp; omega) (by have := HOL.out; simp; omega) ?_; intro v6 w6 ho hb hg hat; have HO6 := Aside0.mk ho; have HB6 := Aside0.mk hb; clear ho hb hg hat))
              go_roundw
              case rel =>
                refine ⟨i + 1, by go_num, ⟨by omega⟩, ⟨?_⟩, HB6⟩
                rw [HS.out, HTN.out]
                exact HO6.out
              case measure => simp [intOf]; omega
    · obtain rfl : i = l0.length := by have := HI.out; omega
      go_wp2
      go_ret
      exact ⟨_, rfl, Kd.R_mono (Kd.R_lower HRr.out HW4.out.size) (fun _ h => h), HW4.out.trans (HBr.out.mono HW4.out.size)⟩
end Go.Proofs.Ytgnaippmncnlaaa.P
