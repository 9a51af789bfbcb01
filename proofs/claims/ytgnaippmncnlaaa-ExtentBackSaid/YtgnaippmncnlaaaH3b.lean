import Derived.Test.YtgnaippmncnlaaaH3
namespace Go.Proofs.Ytgnaippmncnlaaa.P
open Go.RowKit Go.Proofs.YtgnaippmncnlaaaW.PrintWords Go.Proofs.YtgnaippmncnlaaaW.PrintLast Go.Proofs.YtgnaippmncnlaaaW.PrintMore Go.Proofs.YtgnaippmncnlaaaW.HB
set_option linter.unusedVariables false


def zed (x : S47) : S47 := ⟨x.f0 + x.f1, 0⟩
def stL (l : List S47) (k : Nat) : List S47 := (l.take k).map zed ++ l.drop k
theorem stL_len (l : List S47) (k : Nat) : (stL l k).length = l.length := by simp [stL]; omega
theorem stL_zero (l : List S47) : stL l 0 = l := by simp [stL]
theorem stL_rd (l : List S47) (k : Nat) (h : k < l.length) : rd_T47 (stL l k) k = rd_T47 l k := by
  rw [rd_at_E _ _ (by rw [stL_len]; exact h), rd_at_E _ _ h]
  simp only [stL]
  rw [List.getElem_append_right (by simp; omega)]
  simp [Nat.min_eq_left (Nat.le_of_lt h)]
theorem stL_set (l : List S47) (k : Nat) (h : k < l.length) (y : S47) : (stL l k).set k y = (l.take k).map zed ++ y :: l.drop (k + 1) := by
  have hk : ((l.take k).map zed).length = k := by simp; omega
  unfold stL
  rw [List.set_append_right _ _ (by omega), hk, Nat.sub_self]
  congr 1
  rw [List.drop_eq_getElem_cons h]
  rfl
theorem stL_succ (l : List S47) (k : Nat) (h : k < l.length) : (stL l k).set k (zed (rd_T47 l k)) = stL l (k + 1) := by
  rw [stL_set l k h]
  simp only [stL]
  rw [List.take_succ_eq_append_getElem h, List.map_append, rd_at_E _ _ h]
  simp
theorem filter_st (l : List S47) (hl : ∀ x ∈ l, 1 ≤ x.f1) (k : Nat) (y : S47) : ((l.take k).map zed ++ y :: l.drop (k + 1)).filter (fun x => !(x.f1 == 0)) = (if y.f1 = 0 then [] else [y]) ++ l.drop (k + 1) := by
  rw [List.filter_append, List.filter_cons]
  have h1 : ((l.take k).map zed).filter (fun x => !(x.f1 == 0)) = [] := by
    rw [List.filter_eq_nil_iff]
    intro x hx
    obtain ⟨z, _, rfl⟩ := List.mem_map.1 hx
    simp [zed]
  have h2 : (l.drop (k + 1)).filter (fun x => !(x.f1 == 0)) = l.drop (k + 1) := by
    rw [List.filter_eq_self]
    intro x hx
    have := hl x (List.mem_of_mem_drop hx)
    simp; omega
  rw [h1, h2]
  by_cases hy : y.f1 = 0 <;> simp [hy]
theorem sumL_nonneg (l : List S47) (h : ∀ x ∈ l, 0 ≤ x.f1) : 0 ≤ sumL l := by
  induction l with
  | nil => simp [sumL]
  | cons x l ih =>
    have h1 := ih (fun y hy => h y (by simp [hy]))
    have h2 := h x (by simp)
    simp only [sumL, List.map_cons, List.sum_cons] at *
    omega
theorem takeGo_at (l : List S47) (hl : ∀ x ∈ l, 1 ≤ x.f1) : ∀ (k : Nat) (n : Int) (h : k < l.length), sumL (l.take k) < n → n ≤ sumL (l.take k) + (rd_T47 l k).f1 →
    takeGo l n = (l.take k ++ [⟨(rd_T47 l k).f0, n - sumL (l.take k)⟩], (if (rd_T47 l k).f1 - (n - sumL (l.take k)) = 0 then [] else [⟨(rd_T47 l k).f0 + (n - sumL (l.take k)), (rd_T47 l k).f1 - (n - sumL (l.take k))⟩]) ++ l.drop (k + 1)) := by
  induction l with
  | nil => intro k n h; simp at h
  | cons x l ih =>
    intro k n h h1 h2
    cases k with
    | zero =>
      simp only [List.take_zero, sumL, List.map_nil, List.sum_nil, rd_T47, Int.toNat_zero, Int.ofNat_zero, List.getD_cons_zero, Int.sub_zero, List.nil_append, List.drop_succ_cons, List.drop_zero, Int.zero_add] at *
      simp only [takeGo]
      by_cases ha : n < x.f1
      · rw [if_pos ha, if_neg (by omega)]; rfl
      · have hb : n = x.f1 := by omega
        rw [if_neg ha, if_pos hb, if_pos (by omega), hb]; rfl
    | succ k =>
      have e1 : rd_T47 (x :: l) ((k + 1 : Nat) : Int) = rd_T47 l k := by simp [rd_T47]
      have e2 : sumL ((x :: l).take (k + 1)) = x.f1 + sumL (l.take k) := by simp [sumL]
      have hp := sumL_nonneg (l.take k) (fun y hy => by have := hl y (by simp [List.mem_of_mem_take hy]); omega)
      rw [e2] at h1
      rw [e2, e1] at h2
      rw [e1, e2]
      have hx := hl x (by simp)
      have := ih (fun y hy => hl y (by simp [hy])) k (n - x.f1) (by simpa using h) (by omega) (by omega)
      simp only [takeGo]
      rw [if_neg (by omega), if_neg (by omega), this]
      have e3 : n - x.f1 - sumL (l.take k) = n - (x.f1 + sumL (l.take k)) := by omega
      rw [e3]
      simp

theorem TakeSt.setFar {w wx : World} {g cap : Nat} {n : Int} {xs : List S47} (h : TakeSt w wx g cap n xs) (t : Nat) (htg : t ≠ g) (htw : w.heap.size < t) (j : Nat) (v : Value) : TakeSt w (wx.setCell ⟨t, j, none⟩ v) g cap n xs := by
  have hr : Kd.R k47 47 wx w.heap.size (fun k => k = g) (.slice (some ⟨g, 0, none⟩) xs.length cap) xs := R_flat h.row
  exact ⟨far_cell h.box (by simp; omega), by rw [World.frozen?_setCell]; exact h.boxf, Kd.R_mono (Kd.R_far hr (fun k hk => by show k ≠ t; omega) _) (fun k hk => by have := h.gb; omega), h.below.setCell (by show w.heap.size ≤ t; omega) _, h.gb⟩

theorem TakeSt.grown {w wx wy : World} {g cap : Nat} {n : Int} {xs : List S47} (h : TakeSt w wx g cap n xs) {row : Option Nat} (hg : wx.grownBy wy row) (h1 : some w.heap.size ≠ row) (h2 : some g ≠ row) (h3 : ∀ j, row = some j → w.heap.size ≤ j) : TakeSt w wy g cap n xs := by
  have hr : Kd.R k47 47 wx w.heap.size (fun k => k = g) (.slice (some ⟨g, 0, none⟩) xs.length cap) xs := R_flat h.row
  refine ⟨hg.cell h.box h1, ?_, Kd.R_mono (Kd.R_grown hr hg (fun k hk => by rw [hk]; exact h2)) (fun k hk => by have := h.gb; omega), pw_below_grown h.below row h.below.size hg h3, h.gb⟩
  exact (hg.frozen_far ⟨w.heap.size, 0, none⟩ h.low h1).trans h.boxf

set_option maxHeartbeats 2000000 in
theorem take_loop (A0 : Option Addr) (c0 : Nat) (l0 : List S47) (a1 : Int) (w : World) (hr0 : Kd.C k47 w A0 l0.length l0) (hc0 : l0.length ≤ c0) (hg : goodL l0 = true) (hn : 0 < a1) (hs : a1 ≤ sumL l0) (hx : idxOf (fun x => decide (a1 ≤ x.f1)) l0 = -1) (hall : ∀ x ∈ l0, x.f1 < a1) :
    Calls Try.prog 13 #[.slice A0 l0.length c0, .int .i64 a1] w (TakePost w (takeGo l0 a1).1 (takeGo l0 a1).2 0) := by
  have HR0 := Aside0.mk hr0
  have HC0 := Aside0.mk hc0
  have HG := Aside0.mk hg
  have hl : l0.length < 8796093022208 := by have := goodL_len hg; omega
  have hlt : decide (a1 < 0) = false := by simp; omega
  have hgt : decide (sumL l0 < a1) = false := by simp; omega
  have hz : (a1 == 0) = false := by simp; omega
  have HI := Aside0.mk hx
  have hpos : 0 < l0.length := by
    rcases Nat.eq_zero_or_pos l0.length with h | h
    · rw [List.eq_nil_of_length_eq_zero h] at hs; simp [sumL] at hs; omega
    · exact h
  have HALL := Aside0.mk hall
  have HS := Aside0.mk hs
  clear hr0 hc0 hg hs hx hall
  go_enter Try.func13, Try.ntmps13
  have HB := Aside0.mk (below_alloc (Below.refl w.heap.size w) (.cells #[.int .i64 a1] 3))
  go_wp2
  go_step3
  go_wp2_with (first | (go_at_call 23; refine (slices_Clone_E.calls A0 c0 l0 l0 _ (Kd.C_below HR0.out HB.out) HC0.out (by unfold slices_Clone_E.f; rw [if_pos hl])).mono ?_; rintro e w1 ⟨v, rfl, hR, hB⟩; have HR := Aside0.mk hR; have HB1 := Aside0.mk (below_then HB.out HB.out.size hB); have hc3 : w1.cell? ⟨w.heap.size, 0, none⟩ = some (.int .i64 a1) := (hB.cell (p := ⟨w.heap.size, 0, none⟩) (by simp)).trans (cell_fresh _ _ _ _ _ rfl); have hf3 : w1.frozen? ⟨w.heap.size, 0, none⟩ = false := (hB.frozen (p := ⟨w.heap.size, 0, none⟩) (by simp)).trans (frozen_fresh _ _ _ _); clear hR hB))
  go_region_held3 (fun w' => w'.cell? ⟨w.heap.size, 0, none⟩ = some (.int .i64 a1) ∧ Below w1.heap.size w1 w') ((refine ⟨?_, ?_⟩ <;> first | assumption | exact hc3 | exact (Below.refl _ _).drew))
      (first
        | (go_at_call 20; have hh : World.cell? _ ⟨w.heap.size, 0, none⟩ = some (.int .i64 a1) ∧ Below w1.heap.size w1 _ := (by assumption); refine (extent_Count.calls (l0.length + 1) A0 c0 l0 (sumL l0) _ (Kd.C_below HR0.out (below_then HB1.out HB1.out.size hh.2)) HC0.out (count_good l0 HG.out)).mono ?_; rintro e w2 ⟨rfl, hb⟩; have hb1 := (hb.cell (p := ⟨w.heap.size, 0, none⟩) (World.block_lt_of_cell? _ _ hh.1)).trans hh.1; have hb3 : Below w1.heap.size w1 w2 := below_then hh.2 hh.2.size hb; clear hb))
  have HB2 := Aside0.mk hb3
  clear hb3 hh
  have hc4 : w2.cell? ⟨w.heap.size, 0, none⟩ = some (.int .i64 a1) := hb1
  have hf4 : w2.frozen? ⟨w.heap.size, 0, none⟩ = false := (HB2.out.frozen (p := ⟨w.heap.size, 0, none⟩) (World.block_lt_of_cell? _ _ hc3)).trans hf3
  have HR2 := Aside0.mk (Kd.R_mono (Kd.R_bound (Kd.R_below HR.out HB2.out)) (ok' := fun k => k ≠ w.heap.size) (fun k hk => by have := hk.2.1; simp at this; omega))
  have HB3 := Aside0.mk (below_then HB1.out HB1.out.size HB2.out)
  clear hc3 hf3 hb1
  obtain ⟨g, cap, hv, hgb, hgl, hgc⟩ := Kd.R_form HR2.out hpos
  subst hv
  have hg1 : w.heap.size < g := by simp at hgb; omega
  have HRD := Aside0.mk (Kd.R_reads' HR2.out)
  clear HR hgb hgl hgc
  go_wp2_with (first | (go_at_call 24; refine (slices_IndexFunc_E.calls 25 #[.pointer (some ⟨w.heap.size, 0, none⟩)] (fun x => decide (a1 ≤ x.f1)) (some ⟨g, 0, none⟩) cap l0 _ HRD.out.2.2 HRD.out.2.1 (Go.Proofs.enters_of Try.func25 (by kernel_rfl) rfl) (fun x _ w3 hw3 => extent_Take_1.calls x.f0 x.f1 a1 w.heap.size w3 ((hw3.cell (World.block_lt_of_cell? _ _ hc4)).trans hc4))).mono ?_; rintro e w3 ⟨rfl, hb⟩; rw [HI.out]; have HB4 := Aside0.mk hb; have hc5 : w3.cell? ⟨w.heap.size, 0, none⟩ = some (.int .i64 a1) := (hb.cell (World.block_lt_of_cell? _ _ hc4)).trans hc4; have hf5 : w3.frozen? ⟨w.heap.size, 0, none⟩ = false := (hb.frozen (World.block_lt_of_cell? _ _ hc4)).trans hf4; clear hb))
  have ST : TakeSt w w3 g cap a1 l0 := ⟨hc5, hf5, Kd.R_lower (Kd.R_below HR2.out HB4.out) HB.out.size, below_then HB3.out HB3.out.size HB4.out, hg1⟩
  have hl2 : (l0.length : Int) ≤ 65536 := by have := goodL_len HG.out; omega
  have hue := Try.underlying47
  clear hc5 hf5 HR2 HB4 HB3 HB1 HB2 HB HRD hc4 hf4
  have STA := Aside0.mk ST
  clear ST
  go_wp2_with (fail)
  go_step3
  have HW := Aside0.mk (show TakeSt w w3 g cap (a1 - sumL (l0.take 0)) (stL l0 0) from by rw [stL_zero]; simpa [sumL] using STA.out)
  have hg3 := Kd.R_lt STA.out.row g rfl
  clear STA
  go_wp2_with (fail)
  go_loopw [10, 65] (fun v10 v65 w' => ∃ k : Nat, v65 = .int .i64 k ∧ Aside0 (k ≤ l0.length ∧ sumL (l0.take k) < a1) ∧ Aside0 (TakeSt w w' g cap (a1 - sumL (l0.take k)) (stL l0 k)) ∧ Aside0 (Kd.R k47 47 w' w.heap.size (fun j => j ≠ w.heap.size ∧ j ≠ g) v10 (l0.take k))) (fun _ v _ => l0.length - (intOf v).toNat)
  case atStart => exact ⟨0, rfl, ⟨by omega, by simpa [sumL] using hn⟩, HW, ⟨Kd.R_nil _ _ _ _ _⟩⟩
  case round =>
    obtain ⟨k, rfl, HK, STk, HT⟩ := hrel
    clear HW
    have hk : k < l0.length := by
      rcases Nat.lt_or_ge k l0.length with h | h
      · exact h
      · have := HK.out.2; have h2 := HS.out; rw [List.take_of_length_le h] at this; omega
    have hlk := stL_len l0 k
    have hrd := Aside0.mk (stL_rd l0 k hk)
    have hbk : 1 ≤ (rd_T47 l0 k).f1 ∧ (rd_T47 l0 k).f1 ≤ 65536 ∧ 0 ≤ (rd_T47 l0 k).f0 ∧ (rd_T47 l0 k).f0 ≤ 65536 := goodL_mem HG.out (by rw [rd_at_E l0 k hk]; exact List.getElem_mem _)
    obtain ⟨hb1, hb2, hb3, hb4⟩ := hbk
    obtain ⟨hx0, hx1, hy0, hy1⟩ := STk.out.cells k (by omega)
    rw [hrd.out] at hx0 hx1
    have hc0 := STk.out.box
    have hf0 := STk.out.boxf
    have hcap := STk.out.cap
    have hsk := HK.out.2
    clear hlk
    have HT0 := Aside0.mk (Kd.R_mono (Kd.R_bound HT.out) (ok' := fun j => j ≠ w.heap.size ∧ j ≠ g ∧ j < wr.heap.size) (fun j hj => ⟨hj.1.1, hj.1.2, hj.2.2.1⟩))
    have hgw := Kd.R_lt STk.out.row g rfl
    go_upto_region 18 with fail
    obtain ⟨w4, hw4⟩ : ∃ W, W = wr.alloc (.cells #[.int .i64 (rd_T47 l0 k).f0, .int .i64 (rd_T47 l0 k).f1] 47) := ⟨_, rfl⟩
    have ST4 := Aside0.mk (show TakeSt w w4 _ _ _ _ from hw4 ▸ STk.out.alloc _)
    have HT4 := Aside0.mk (show Kd.R k47 47 w4 w.heap.size _ u10 _ from hw4 ▸ Kd.R_alloc HT0.out _)
    have ht0 : w4.cell? ⟨wr.heap.size, 0, none⟩ = some (.int .i64 (rd_T47 l0 k).f0) := by rw [hw4]; exact cell_fresh _ _ _ _ _ rfl
    have ht1 : w4.cell? ⟨wr.heap.size, 1, none⟩ = some (.int .i64 (rd_T47 l0 k).f1) := by rw [hw4]; exact cell_fresh _ _ _ _ _ rfl
    have hz1 : w4.frozen? ⟨wr.heap.size, 1, none⟩ = false := by rw [hw4]; exact frozen_fresh _ _ _ _
    have htl : wr.heap.size < w4.heap.size := by rw [hw4]; simp
    have hwg : w.heap.size < wr.heap.size := STk.out.low
    rw [← hw4]
    generalize wr.heap.size = t at *
    clear hw4 STk hx0 hx1 hy0 hy1 hc0 hf0 HT HT0
    have hc0 := ST4.out.box
    go_upto_region 19 with fail
    obtain ⟨m, hm⟩ : ∃ m, (if a1 - sumL (l0.take k) < (rd_T47 l0 k).f1 then a1 - sumL (l0.take k) else (rd_T47 l0 k).f1) = m := ⟨_, rfl⟩
    rw [hm]
    have hm1 : 1 ≤ m := by rw [← hm]; split <;> omega
    have hm2 : m ≤ (rd_T47 l0 k).f1 := by rw [← hm]; split <;> omega
    have hm3 : m ≤ a1 - sumL (l0.take k) := by rw [← hm]; split <;> omega
    have HM := Aside0.mk hm
    obtain ⟨w5, hw5⟩ : ∃ W, W = w4.setCell ⟨t, 1, none⟩ (.int .i64 m) := ⟨_, rfl⟩
    have ST5 := Aside0.mk (show TakeSt w w5 _ _ _ _ from hw5 ▸ ST4.out.setFar t (by omega) (by omega) 1 _)
    have HT5 := Aside0.mk (show Kd.R k47 47 w5 w.heap.size _ u10 _ from hw5 ▸ Kd.R_far HT4.out (fun j hj => by have := hj.2.2; show j ≠ t; omega) _)
    replace ht0 : w5.cell? ⟨t, 0, none⟩ = some (.int .i64 (rd_T47 l0 k).f0) := by rw [hw5]; exact (World.cell?_setCell_other _ _ _ _ (by simp)).trans ht0
    replace ht1 : w5.cell? ⟨t, 1, none⟩ = some (.int .i64 m) := by rw [hw5]; exact World.cell?_setCell_same' _ _ _ (by rw [ht1]; rfl)
    replace htl : t < w5.heap.size := by rw [hw5]; simpa using htl
    rw [← hw5]
    clear hw5 ST4 HT4 hc0 hz1 hm
    have HT5' := Aside0.mk (Kd.R_alloc (Kd.R_mono HT5.out (ok' := fun j => j ≠ w.heap.size ∧ j ≠ g ∧ j ≠ t) (fun j hj => ⟨hj.1, hj.2.1, by omega⟩)) (.cells #[.int .i64 (rd_T47 l0 k).f0, .int .i64 m] 47))
    have HONE := Aside0.mk (Kd.R_reads' (R_one (d := k47) (e := 47) (w := w5) (base := w.heap.size) (ok := fun _ => True) (x := ⟨(rd_T47 l0 k).f0, m⟩) (cs := #[.int .i64 (rd_T47 l0 k).f0, .int .i64 m]) (k47_mkM _ _ _ (⟨(rd_T47 l0 k).f0, m⟩ : S47)) ST5.out.below.size trivial)).2.2
    have hlt5 : w.heap.size < w5.heap.size := ST5.out.low
    have hlg5 := Kd.R_lt ST5.out.row g rfl
    have HOB := Aside0.mk (Kd.R_bound HT5.out).1
    go_upto_region 20 with (first | (at_builtin; refine Kd.R_append_rows k47 (w0 := w) w.heap.size rfl (.tmp 75) (.tmp 77) 22 47 (.agg #[(.int .i64 0), (.int .i64 0)]) 16 rfl Try.underlying22 info47 rfl (by decide) (by omega) _ (l0.take k) [(⟨(rd_T47 l0 k).f0, m⟩ : S47)] _ _ _ _ (fun _ => False) rfl rfl HT5'.out HONE.out (fun _ _ h => h) (fun _ h => h.elim) (fun j hj => by simp at hj; exact ⟨by omega, by omega, by omega⟩) (below_alloc ST5.out.below _) (by have := ST5.out.below.size; simp; omega) (by simp; omega) ?_; intro v6 w6 ho hb hg hat; have HT6 := Aside0.mk ho; have HG6 := Aside0.mk hg; clear ho hb hg hat))
    have hne6 : ∀ j, j = w.heap.size ∨ j = g ∨ j = t → some j ≠ u10.ownBlock := fun j hj he => by
      have := (HOB.out j he.symm).1
      omega
    have ST6 := Aside0.mk ((ST5.out.alloc _).grown HG6.out (hne6 _ (.inl rfl)) (hne6 _ (.inr (.inl rfl))) (fun j hj => (HOB.out j hj).2.1))
    replace ht0 : w6.cell? ⟨t, 0, none⟩ = some (.int .i64 (rd_T47 l0 k).f0) := HG6.out.cell (Lib.cell?_alloc_some _ ht0) (hne6 _ (.inr (.inr rfl)))
    replace ht1 : w6.cell? ⟨t, 1, none⟩ = some (.int .i64 m) := HG6.out.cell (Lib.cell?_alloc_some _ ht1) (hne6 _ (.inr (.inr rfl)))
    clear HT5 HT5' HONE HOB ST5 hne6 HG6 hlt5 hlg5 htl
    obtain ⟨hx0, hx1, hy0, hy1⟩ := ST6.out.cells k (by rw [stL_len]; omega)
    rw [hrd.out] at hx0 hx1
    go_still_tail 10, (by kernel_rfl)
    go_wp2_with (fail)
    obtain ⟨w7, hw7⟩ : ∃ W, W = (w6.setCell ⟨g, k * 2, none⟩ (.int .i64 ((rd_T47 l0 k).f0 + m))).drew := ⟨_, rfl⟩
    have ST7 := Aside0.mk (show TakeSt w w7 _ _ _ _ from hw7 ▸ (ST6.out.set0 k (by rw [stL_len]; omega) _).drew)
    have HT7 := Aside0.mk (show Kd.R k47 47 w7 w.heap.size _ v6 _ from hw7 ▸ Kd.R_drew (Kd.R_far HT6.out (fun j hj => hj.2.1) _))
    replace ht0 : w7.cell? ⟨t, 0, none⟩ = some (.int .i64 (rd_T47 l0 k).f0) := by rw [hw7]; exact far_cell ht0 (by simp; omega)
    replace ht1 : w7.cell? ⟨t, 1, none⟩ = some (.int .i64 m) := by rw [hw7]; exact far_cell ht1 (by simp; omega)
    rw [← hw7]
    rw [hrd.out] at ST7
    clear hw7 ST6 HT6 hx0 hx1 hy0 hy1
    obtain ⟨hx0, hx1, hy0, hy1⟩ := ST7.out.cells k (by rw [List.length_set, stL_len]; omega)
    have hset := Aside0.mk (rd_set_E (stL l0 k) k (by rw [stL_len]; omega) ⟨(rd_T47 l0 k).f0 + m, (rd_T47 l0 k).f1⟩)
    rw [hset.out] at hx0 hx1
    go_still_tail 10, (by kernel_rfl)
    go_upto_region 22 with fail
    obtain ⟨w8, hw8⟩ : ∃ W, W = (w7.setCell ⟨g, k * 2 + 1, none⟩ (.int .i64 ((rd_T47 l0 k).f1 - m))).drew := ⟨_, rfl⟩
    have ST8 := Aside0.mk (show TakeSt w w8 g cap (a1 - sumL (l0.take k)) ((stL l0 k).set k ⟨(rd_T47 l0 k).f0 + m, (rd_T47 l0 k).f1 - m⟩) from by
      have := (ST7.out.set1 k (by rw [List.length_set, stL_len]; omega) ((rd_T47 l0 k).f1 - m)).drew
      rw [← hw8, hset.out, List.set_set] at this
      exact this)
    have HT8 := Aside0.mk (show Kd.R k47 47 w8 w.heap.size _ v6 _ from hw8 ▸ Kd.R_drew (Kd.R_far HT7.out (fun j hj => hj.2.1) _))
    replace ht0 : w8.cell? ⟨t, 0, none⟩ = some (.int .i64 (rd_T47 l0 k).f0) := by rw [hw8]; exact far_cell ht0 (by simp; omega)
    replace ht1 : w8.cell? ⟨t, 1, none⟩ = some (.int .i64 m) := by rw [hw8]; exact far_cell ht1 (by simp; omega)
    rw [← hw8]
    clear hw8 ST7 HT7 hx0 hx1 hy0 hy1 hset
    have hc0 := ST8.out.box
    have hf0 := ST8.out.boxf
    have hnm : -140737488355328 ≤ a1 - sumL (l0.take k) - m := by omega
    have hn2 : a1 - sumL (l0.take k) ≤ 140737488355328 := by have h1 := sumL_bound l0 (fun x hx => by have := goodL_mem HG.out hx; omega); have h2 := sumL_nonneg (l0.take k) (fun x hx => by have := goodL_mem HG.out (List.mem_of_mem_take hx); omega); have := HS.out; omega
    go_upto_region 23 with fail
    obtain ⟨w9, hw9⟩ : ∃ W, W = w8.setCell ⟨w.heap.size, 0, none⟩ (.int .i64 (a1 - sumL (l0.take k) - m)) := ⟨_, rfl⟩
    have ST9 := Aside0.mk (show TakeSt w w9 _ _ _ _ from hw9 ▸ ST8.out.setBox _)
    have HT9 := Aside0.mk (show Kd.R k47 47 w9 w.heap.size _ v6 _ from hw9 ▸ Kd.R_far HT8.out (fun j hj => hj.1) _)
    rw [← hw9]
    have hsz9 : w8.heap.size = w9.heap.size := by rw [hw9]; simp
    clear hw9 ST8 HT8 hc0 hf0 ht0 ht1
    have hc0 := ST9.out.box
    have hs2 := sumL_take_succ l0 k hk
    by_cases hA : a1 - sumL (l0.take k) - m = 0
    · have hq : (a1 - sumL (l0.take k) - m == 0) = true := by rw [beq_iff_eq]; exact hA
      have HA := Aside0.mk hA
      clear hA hs2
      have HR9 := Aside0.mk (show Kd.R k47 47 w9 w.heap.size (fun j => j ≠ w.heap.size) (.slice (some ⟨g, 0, none⟩) l0.length cap) ((stL l0 k).set k ⟨(rd_T47 l0 k).f0 + m, (rd_T47 l0 k).f1 - m⟩) from by
        have := ST9.out.row
        rwa [List.length_set, stL_len] at this)
      go_wp2_with (first | (go_at_call 26; refine (extent_whole.calls g l0.length cap w.heap.size (fun k => k ≠ w.heap.size) _ _ HR9.out).mono ?_; rintro e w10 ⟨q, rfl, hR, hG⟩; have HR10 := Aside0.mk hR; have HG10 := Aside0.mk hG; clear hR hG))
      rw [Exit.noGoto_ret]
      go_ret3
      have hmm : m = a1 - sumL (l0.take k) := by have := HA.out; omega
      have hgo := takeGo_at l0 (fun x hx => (goodL_mem HG.out hx).1) k a1 hk (HK.out.2) (by omega)
      rw [← hmm] at hgo
      rw [hgo]
      refine ⟨_, _, rfl, ?_, ?_, ?_⟩
      · exact Kd.R_mono (Kd.R_grown HT9.out HG10.out (fun j hj => by simp; exact hj.2.1)) (fun j hj => by simp [Value.ownBlock]; exact hj.2.1)
      · have h1 := HR10.out
        rw [stL_set l0 k hk, filter_st l0 (fun x hx => (goodL_mem HG.out hx).1)] at h1
        exact Kd.R_mono (R_flat h1) (fun j hj he => by
          have := HT9.out.1 j he.symm
          omega)
      · exact pw_below_grown ST9.out.below (some g) ST9.out.below.size HG10.out (fun j hj => by cases hj; omega)
    · have hq : (a1 - sumL (l0.take k) - m == 0) = false := by rw [beq_eq_false_iff_ne]; exact hA
      have hmf : m = (rd_T47 l0 k).f1 := by have := HM.out; split at this <;> omega
      go_wp2
      go_roundw
      case rel =>
        refine ⟨k + 1, by go_num, ⟨by omega, by omega⟩, ⟨?_⟩, ⟨?_⟩⟩
        · have h1 := ST9.out
          have e1 : (⟨(rd_T47 l0 k).f0 + m, (rd_T47 l0 k).f1 - m⟩ : S47) = zed (rd_T47 l0 k) := by simp only [zed]; rw [hmf, Int.sub_self]
          rw [e1, stL_succ l0 k hk] at h1
          have e2 : a1 - sumL (l0.take k) - m = a1 - sumL (l0.take (k + 1)) := by omega
          rw [e2] at h1
          exact h1
        · have h1 := HT9.out
          have e1 : l0.take k ++ [(⟨(rd_T47 l0 k).f0, m⟩ : S47)] = l0.take (k + 1) := by
            rw [List.take_succ_eq_append_getElem hk, hmf, rd_at_E l0 k hk]
          rw [e1] at h1
          exact Kd.R_mono h1 (fun j hj => ⟨hj.1, hj.2.1⟩)
      case measure => simp [intOf]; omega
theorem extent_Take.calls (A0 : Option Addr) (c0 : Nat) (l0 : List S47) (a1 : Int) (r1 r2 : List S47) (r3 : Int) (w : World) (hr0 : Kd.C k47 w A0 l0.length l0) (hc0 : l0.length ≤ c0) (h : extent_Take.f l0 a1 = some (r1, r2, r3)) :
    Calls Try.prog 13 #[.slice A0 l0.length c0, .int .i64 a1] w fun e w' => ∃ v0_ v1_ : Value, e = .returned (.tuple #[v0_, v1_, .int .i64 r3]) ∧ Kd.R k47 47 w' w.heap.size (fun k_ => some k_ ≠ (v1_ : Value).ownBlock) v0_ r1 ∧ Kd.R k47 47 w' w.heap.size (fun k_ => some k_ ≠ (v0_ : Value).ownBlock) v1_ r2 ∧ Below w.heap.size w w' := by
  unfold extent_Take.f at h
  split at h
  · rename_i hg
    split at h
    · rename_i h1
      simp at h; obtain ⟨rfl, rfl, rfl⟩ := h
      exact take_neg A0 c0 l0 a1 w hr0 hc0 hg h1
    · rename_i h1
      split at h
      · rename_i h2
        simp at h; obtain ⟨rfl, rfl, rfl⟩ := h
        exact take_few A0 c0 l0 a1 w hr0 hc0 hg (by omega) h2
      · rename_i h2
        split at h
        · rename_i h3
          simp at h; obtain ⟨rfl, rfl, rfl⟩ := h
          exact take_zero A0 c0 l0 a1 w hr0 hc0 hg h3 (by omega)
        · rename_i h3
          split at h
          · rename_i i hi
            simp only [Option.some.injEq, Prod.mk.injEq] at h; obtain ⟨rfl, rfl, rfl⟩ := h
            have hx : idxOf (fun x : S47 => decide (a1 ≤ x.f1)) l0 = i := by simp [idxOf, hi]
            rw [List.findIdx?_eq_some_iff_getElem] at hi
            obtain ⟨hi1, hi2, _⟩ := hi
            exact take_whole A0 c0 l0 a1 w hr0 hc0 hg (by omega) (by omega) i hi1 hx (by rw [rd_at_E l0 i hi1]; simpa using hi2)
          · rename_i hi
            simp only [Option.some.injEq, Prod.mk.injEq] at h; obtain ⟨rfl, rfl, rfl⟩ := h
            have hx : idxOf (fun x : S47 => decide (a1 ≤ x.f1)) l0 = -1 := by simp [idxOf, hi]
            rw [List.findIdx?_eq_none_iff] at hi
            exact take_loop A0 c0 l0 a1 w hr0 hc0 hg (by omega) (by omega) hx (fun x hx => by have := hi x hx; simpa using this)
  · cases h
end Go.Proofs.Ytgnaippmncnlaaa.P
