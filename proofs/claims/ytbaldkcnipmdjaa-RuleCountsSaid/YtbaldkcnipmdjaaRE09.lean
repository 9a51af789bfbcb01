/- Texts of this claim, merged by pack.py: PReefref12Try PReefref12Place Q4 PRuleMost Q5 PRuleValid PReefref12Valid Q6 PReefref12Most Q7 W1a PReeflaw12Ints W0 W0b Q8 Q9 Q10 -/
import Derived.Test.YtbaldkcnipmdjaaRE01
import Derived.Test.YtbaldkcnipmdjaaRE08
import Derived.Test.YtbaldkcnipmdjaaRE07
import Derived.Test.YtbaldkcnipmdjaaRE04
namespace Go.Proofs.Ytbaldkcnipmdjaa.P
open Go.RowKit Go.Proofs.YtbaldkcnipmdjaaW.PrintWords Go.Proofs.YtbaldkcnipmdjaaW.PrintLast Go.Proofs.YtbaldkcnipmdjaaW.PrintMore
attribute [local go_sem] max2_int min2_int max_two min_two max_three min_three max_four min_four
set_option linter.unusedVariables false
set_option linter.unusedSimpArgs false
def reefref12_try.l0 : Nat → List Int → List Int → Int → Int → List (S31) → Int → List (S31) → Int → Option (Int)
  | 0, _, _, _, _, _, _, _, _ => none
  | k + 1, x0, x1, x2, x3, x9, x10, x12, x13 => if x13 < (x0.length : Int) then (if 0 ≤ x13 then (if 0 ≤ x10 then (if x10 < (x9.length : Int) then (if (rd x0 x13) = ((rd_T31 x9 x10).f0) then ((reefref12_weight.f x1 x13).bind fun t288 => (if x12.length < 8796093022208 then (reefref12_try.l0 k x0 x1 x2 x3 x9 x10 (x12 ++ [(⟨x13, t288⟩ : S31)]) (wrap64 (x13 + 1))) else (none))) else (reefref12_try.l0 k x0 x1 x2 x3 x9 x10 x12 (wrap64 (x13 + 1)))) else (none)) else (none)) else (none)) else ((reefref11_Choose.f k x12 x2 (wrap64 (x3 + 64))).bind fun bt292 => (if bt292.2 = true then (if 0 ≤ bt292.1 then (if bt292.1 < (x12.length : Int) then (some ((rd_T31 x12 bt292.1).f0)) else (none)) else (none)) else (some (-1))))
def reefref12_try.f (k : Nat) (l0 : List Int) (l1 : List Int) (a2 : Int) (a3 : Int) : Option (Int) := (reefref12_Items.f k l0 l1).bind fun t281 => ((reefref11_Choose.f k t281 a2 a3).bind fun bt284 => (if bt284.2 = true then (reefref12_try.l0 k l0 l1 a2 a3 t281 bt284.1 ([] : List (S31)) 0) else (some (-1))))
set_option maxHeartbeats 8000000 in
set_option maxRecDepth 100000 in
theorem reefref12_try.calls (k : Nat) (A0 : Option Addr) (c0 : Nat) (l0 : List Int) (A1 : Option Addr) (c1 : Nat) (l1 : List Int) (a2 : Int) (a3 : Int) (r : Int) (w : World) (hr0 : Kd.C (Kd.int .i64) w A0 l0.length l0) (hc0 : l0.length ≤ c0) (hr1 : Kd.C (Kd.int .i64) w A1 l1.length l1) (hc1 : l1.length ≤ c1) (h : reefref12_try.f k l0 l1 a2 a3 = some r) :
    Calls Try.prog 34 #[.slice A0 l0.length c0, .slice A1 l1.length c1, .int .u32 a2, .int .i64 a3] w fun e w' => e = .returned (.int .i64 r) ∧ Below w.heap.size w w' := by
  have hu31 := Try.underlying31
  have HR0 := Aside0.mk hr0
  have HC0 := Aside0.mk hc0
  clear hr0 hc0
  have HR1 := Aside0.mk hr1
  have HC1 := Aside0.mk hc1
  clear hr1 hc1
  have HB := Aside0.mk (Below.refl w.heap.size w)
  have H : ((reefref12_Items.f k l0 l1).bind fun t281 => ((reefref11_Choose.f k t281 a2 a3).bind fun bt284 => (if bt284.2 = true then (reefref12_try.l0 k l0 l1 a2 a3 t281 bt284.1 ([] : List (S31)) 0) else (some (-1))))) = some r := h
  clear h
  replace H := Option.bind_eq_some_iff.mp H
  obtain ⟨t281, A50, H⟩ := H
  replace H : ((reefref11_Choose.f k t281 a2 a3).bind fun bt284 => (if bt284.2 = true then (reefref12_try.l0 k l0 l1 a2 a3 t281 bt284.1 ([] : List (S31)) 0) else (some (-1)))) = some r := H
  have A5 := Aside0.mk A50
  clear A50
  replace H := Option.bind_eq_some_iff.mp H
  obtain ⟨⟨t284, t285⟩, A60, H⟩ := H
  replace H : (if t285 = true then (reefref12_try.l0 k l0 l1 a2 a3 t281 t284 ([] : List (S31)) 0) else (some (-1))) = some r := H
  have A6 := Aside0.mk A60
  clear A60
  by_cases c7 : t285 = true
  · subst c7
    have H1 : (reefref12_try.l0 k l0 l1 a2 a3 t281 t284 ([] : List (S31)) 0) = some r := by rw [if_pos rfl] at H; exact H
    clear H
    have H := H1
    clear H1
    have H' := Aside0.mk H
    clear H
    go_enter Try.func34, Try.ntmps34
    go_wp2_with (first | (go_at_call 11; (with_reducible refine (reefref12_Items.calls k _ _ l0 _ _ l1 t281 _ ?side1 ?side2 ?side3 ?side4 A5.out).mono ?_); (case side1 => repeat (first | exact HR0.out | (with_reducible refine Kd.C_alloc ?_ _) | (with_reducible refine Kd.C_drewN ?_ _) | (with_reducible refine Kd.C_drew ?_))); (case side2 => exact HC0.out); (case side3 => repeat (first | exact HR1.out | (with_reducible refine Kd.C_alloc ?_ _) | (with_reducible refine Kd.C_drewN ?_ _) | (with_reducible refine Kd.C_drew ?_))); (case side4 => exact HC1.out); rintro e w8 ⟨v282, rfl, ho0, hb⟩; have n0_ := Aside0.mk (Kd.R_lower ho0 (below_size (by repeat (first | (with_reducible first | exact HB.out | apply below_alloc | apply pw_below_drewN | apply below_drew1) | exact HB.out)))); have n1_ := Aside0.mk (below_step (by repeat (first | (with_reducible first | exact HB.out | apply below_alloc | apply pw_below_drewN | apply below_drew1) | exact HB.out)) hb); clear HB; have HO283 := n0_; have HB := n1_; clear n0_ n1_; (try clear hb); (try clear hb2); (try clear hk); (try clear hi); (try clear ho0); obtain ⟨Ao9, co9, eo9⟩ := Kd.R_slice HO283.out; subst eo9) | (go_at_call 43; (with_reducible refine (reefref11_Choose.calls k _ _ t281 a2 a3 t284 true _ ?side1 ?side2 A6.out).mono ?_); (case side1 => repeat (first | exact (Kd.R_reads' HO283.out).2.2 | (with_reducible refine Kd.C_alloc ?_ _) | (with_reducible refine Kd.C_drewN ?_ _) | (with_reducible refine Kd.C_drew ?_))); (case side2 => exact (Kd.R_reads' HO283.out).2.1); rintro e w10 ⟨rfl, hb⟩; have n0_ := Aside0.mk (Kd.R_below (by (with_reducible repeat (first | apply Kd.R_alloc | apply Kd.R_drewN | apply Kd.R_drew)); exact HO283.out) hb); have n1_ := Aside0.mk (below_step (by repeat (first | (with_reducible first | exact HB.out | apply below_alloc | apply pw_below_drewN | apply below_drew1) | exact HB.out)) hb); clear HO283; clear HB; have HO283 := n0_; have HB := n1_; clear n0_ n1_; (try clear hb); (try clear hb2); (try clear hk); (try clear hi)))
    repeat (go_quiet (first | (go_at_call 11; (with_reducible refine (reefref12_Items.calls k _ _ l0 _ _ l1 t281 _ ?side1 ?side2 ?side3 ?side4 A5.out).mono ?_); (case side1 => repeat (first | exact HR0.out | (with_reducible refine Kd.C_alloc ?_ _) | (with_reducible refine Kd.C_drewN ?_ _) | (with_reducible refine Kd.C_drew ?_))); (case side2 => exact HC0.out); (case side3 => repeat (first | exact HR1.out | (with_reducible refine Kd.C_alloc ?_ _) | (with_reducible refine Kd.C_drewN ?_ _) | (with_reducible refine Kd.C_drew ?_))); (case side4 => exact HC1.out); rintro e w8 ⟨v282, rfl, ho0, hb⟩; have n0_ := Aside0.mk (Kd.R_lower ho0 (below_size (by repeat (first | (with_reducible first | exact HB.out | apply below_alloc | apply pw_below_drewN | apply below_drew1) | exact HB.out)))); have n1_ := Aside0.mk (below_step (by repeat (first | (with_reducible first | exact HB.out | apply below_alloc | apply pw_below_drewN | apply below_drew1) | exact HB.out)) hb); clear HB; have HO283 := n0_; have HB := n1_; clear n0_ n1_; (try clear hb); (try clear hb2); (try clear hk); (try clear hi); (try clear ho0); obtain ⟨Ao9, co9, eo9⟩ := Kd.R_slice HO283.out; subst eo9) | (go_at_call 43; (with_reducible refine (reefref11_Choose.calls k _ _ t281 a2 a3 t284 true _ ?side1 ?side2 A6.out).mono ?_); (case side1 => repeat (first | exact (Kd.R_reads' HO283.out).2.2 | (with_reducible refine Kd.C_alloc ?_ _) | (with_reducible refine Kd.C_drewN ?_ _) | (with_reducible refine Kd.C_drew ?_))); (case side2 => exact (Kd.R_reads' HO283.out).2.1); rintro e w10 ⟨rfl, hb⟩; have n0_ := Aside0.mk (Kd.R_below (by (with_reducible repeat (first | apply Kd.R_alloc | apply Kd.R_drewN | apply Kd.R_drew)); exact HO283.out) hb); have n1_ := Aside0.mk (below_step (by repeat (first | (with_reducible first | exact HB.out | apply below_alloc | apply pw_below_drewN | apply below_drew1) | exact HB.out)) hb); clear HO283; clear HB; have HO283 := n0_; have HB := n1_; clear n0_ n1_; (try clear hb); (try clear hb2); (try clear hk); (try clear hi))); try go_wp2_with (first | (go_at_call 11; (with_reducible refine (reefref12_Items.calls k _ _ l0 _ _ l1 t281 _ ?side1 ?side2 ?side3 ?side4 A5.out).mono ?_); (case side1 => repeat (first | exact HR0.out | (with_reducible refine Kd.C_alloc ?_ _) | (with_reducible refine Kd.C_drewN ?_ _) | (with_reducible refine Kd.C_drew ?_))); (case side2 => exact HC0.out); (case side3 => repeat (first | exact HR1.out | (with_reducible refine Kd.C_alloc ?_ _) | (with_reducible refine Kd.C_drewN ?_ _) | (with_reducible refine Kd.C_drew ?_))); (case side4 => exact HC1.out); rintro e w8 ⟨v282, rfl, ho0, hb⟩; have n0_ := Aside0.mk (Kd.R_lower ho0 (below_size (by repeat (first | (with_reducible first | exact HB.out | apply below_alloc | apply pw_below_drewN | apply below_drew1) | exact HB.out)))); have n1_ := Aside0.mk (below_step (by repeat (first | (with_reducible first | exact HB.out | apply below_alloc | apply pw_below_drewN | apply below_drew1) | exact HB.out)) hb); clear HB; have HO283 := n0_; have HB := n1_; clear n0_ n1_; (try clear hb); (try clear hb2); (try clear hk); (try clear hi); (try clear ho0); obtain ⟨Ao9, co9, eo9⟩ := Kd.R_slice HO283.out; subst eo9) | (go_at_call 43; (with_reducible refine (reefref11_Choose.calls k _ _ t281 a2 a3 t284 true _ ?side1 ?side2 A6.out).mono ?_); (case side1 => repeat (first | exact (Kd.R_reads' HO283.out).2.2 | (with_reducible refine Kd.C_alloc ?_ _) | (with_reducible refine Kd.C_drewN ?_ _) | (with_reducible refine Kd.C_drew ?_))); (case side2 => exact (Kd.R_reads' HO283.out).2.1); rintro e w10 ⟨rfl, hb⟩; have n0_ := Aside0.mk (Kd.R_below (by (with_reducible repeat (first | apply Kd.R_alloc | apply Kd.R_drewN | apply Kd.R_drew)); exact HO283.out) hb); have n1_ := Aside0.mk (below_step (by repeat (first | (with_reducible first | exact HB.out | apply below_alloc | apply pw_below_drewN | apply below_drew1) | exact HB.out)) hb); clear HO283; clear HB; have HO283 := n0_; have HB := n1_; clear n0_ n1_; (try clear hb); (try clear hb2); (try clear hk); (try clear hi))))
    go_loopg [12, 13] k (fun kq v12 v13 w' => ∃ (x12_1 : List (S31)) (x13_1 : Int), v13 = .int .i64 x13_1 ∧ Aside0 (reefref12_try.l0 kq l0 l1 a2 a3 t281 t284 x12_1 x13_1 = some r) ∧ Aside0 (kq ≤ k) ∧ Aside0 (Kd.R k31 31 w' w.heap.size (fun k_ => some k_ ≠ (v12 : Value).ownBlock) (.slice Ao9 t281.length co9) t281) ∧ Aside0 (Kd.R k31 31 w' w.heap.size (fun k_ => some k_ ≠ ((.slice Ao9 t281.length co9) : Value).ownBlock) v12 x12_1) ∧ Aside0 (Below w.heap.size w w'))
    case atStart => exact ⟨(([] : List (S31))), (0), (by first | rfl | (simp; done) | (simp [*]; done)), H', ⟨Nat.le_refl _⟩, ⟨by (with_reducible repeat (first | apply Kd.R_alloc | apply Kd.R_drewN | apply Kd.R_drew)); exact Kd.R_mono HO283.out (fun _ hk => (by simp [Value.ownBlock]))⟩, ⟨by first | exact Kd.R_nil _ _ _ _ _ | exact Kd.N_nil _ _ _ _ _ | exact Kd.V_nil _ _ _ _ _ | exact Kd.Q_nil _ _ _ _ _ | exact Kd.S_nil _ _ _ _ _⟩, ⟨by repeat (first | (with_reducible first | exact HB.out | apply below_alloc | apply pw_below_drewN | apply below_drew1) | exact HB.out)⟩⟩
    case round =>
      clear H'
      try clear c1
      try clear p2
      try clear c3
      try clear c7
      obtain ⟨x12_1, x13_1, rfl, HA, HK1, HO_9, HO_12, HB⟩ := hrel
      cases gk with
      | zero => exact absurd HA.out (by simp [reefref12_try.l0])
      | succ k1 =>
        have H := HA.out
        clear HA
        simp only [reefref12_try.l0] at H
        by_cases c11 : x13_1 < (l0.length : Int)
        · rw [if_pos c11] at H
          have c11b0 : decide (x13_1 < (l0.length : Int)) = true := decide_eq_true c11
          clear c11
          by_cases c12 : 0 ≤ x13_1
          · rw [if_pos c12] at H
            have c12b0 : decide (0 ≤ x13_1) = true := decide_eq_true c12
            clear c12
            by_cases c13 : 0 ≤ t284
            · rw [if_pos c13] at H
              have c13b0 : decide (0 ≤ t284) = true := decide_eq_true c13
              clear c13
              by_cases c14 : t284 < (t281.length : Int)
              · rw [if_pos c14] at H
                have c14b0 : decide (t284 < (t281.length : Int)) = true := decide_eq_true c14
                clear c14
                by_cases c15 : (rd l0 x13_1) = ((rd_T31 t281 t284).f0)
                · rw [if_pos c15] at H
                  have c15b0 : ((rd l0 x13_1) == ((rd_T31 t281 t284).f0)) = true := beq_iff_eq.mpr c15
                  have c15b1 : ((rd l0 x13_1) != ((rd_T31 t281 t284).f0)) = false := bne_eq_false_iff_eq.mpr c15
                  clear c15
                  replace H := Option.bind_eq_some_iff.mp H
                  obtain ⟨t288, A160, H⟩ := H
                  replace H : (if x12_1.length < 8796093022208 then (reefref12_try.l0 k1 l0 l1 a2 a3 t281 t284 (x12_1 ++ [(⟨x13_1, t288⟩ : S31)]) (wrap64 (x13_1 + 1))) else (none)) = some r := H
                  have A16 := Aside0.mk A160
                  clear A160
                  by_cases c17 : x12_1.length < 8796093022208
                  · rw [if_pos c17] at H
                    have LMc17 := Aside0.mk c17
                    clear c17
                    obtain ⟨y289, hy289⟩ : ∃ y_ : List (S31), y_ = (x12_1 ++ [(⟨x13_1, t288⟩ : S31)]) := ⟨_, rfl⟩
                    replace H : (reefref12_try.l0 k1 l0 l1 a2 a3 t281 t284 y289 (wrap64 (x13_1 + 1))) = some r := by first | (rw [hy289]; with_reducible exact H) | (have H2_ := (Option.bind_some _ _).symm.trans H; rw [hy289]; with_reducible exact H2_) | (have H2_ := (Option.bind_some _ _).symm.trans H; with_reducible exact H2_) | with_reducible exact H | (rw [hy289]; exact H) | exact H
                    have Ny289 := Aside0.mk hy289
                    clear hy289
                    have H' := Aside0.mk H
                    clear H
                    have p286 : 0 ≤ (x13_1 : Int) := of_decide_eq_true (by first | (with_reducible assumption) | assumption)
                    have q286 : x13_1 < (l0.length : Int) := of_decide_eq_true (by first | (with_reducible assumption) | assumption)
                    obtain ⟨ad286, e286, hx286_0⟩ := Kd.at_int HR0.out x13_1 p286 q286
                    cases e286
                    replace hx286_0 := (HB.out.cell (World.block_lt_of_cell? w _ hx286_0)).trans hx286_0
                    replace p286 := eq_true p286
                    replace q286 := eq_true q286
                    have p287 : 0 ≤ (t284 : Int) := of_decide_eq_true (by first | (with_reducible assumption) | assumption)
                    have q287 : t284 < (t281.length : Int) := of_decide_eq_true (by first | (with_reducible assumption) | assumption)
                    obtain ⟨ad287, e287, hx287_0, hx287_1⟩ := at_T31 (Kd.R_reads' HO_9.out).2.2 t284 p287 q287
                    cases e287
                    replace p287 := eq_true p287
                    replace q287 := eq_true q287
                    go_wp2_with (first | (go_at_call 27; (with_reducible refine (reefref12_weight.calls _ _ l1 x13_1 t288 _ ?side1 ?side2 A16.out).mono ?_); (case side1 => repeat (first | exact (Kd.C_below HR1.out HB.out) | (with_reducible refine Kd.C_alloc ?_ _) | (with_reducible refine Kd.C_drewN ?_ _) | (with_reducible refine Kd.C_drew ?_))); (case side2 => exact HC1.out); rintro e w18 ⟨rfl, hb⟩; have n0_ := Aside0.mk (Kd.R_below (by (with_reducible repeat (first | apply Kd.R_alloc | apply Kd.R_drewN | apply Kd.R_drew)); exact HO_9.out) hb); have n1_ := Aside0.mk (Kd.R_below (by (with_reducible repeat (first | apply Kd.R_alloc | apply Kd.R_drewN | apply Kd.R_drew)); exact HO_12.out) hb); have n2_ := Aside0.mk (below_step (by repeat (first | (with_reducible first | exact HB.out | apply below_alloc | apply pw_below_drewN | apply below_drew1) | exact HB.out)) hb); clear HO_9; clear HO_12; clear HB; have HO_9 := n0_; have HO_12 := n1_; have HB := n2_; clear n0_ n1_ n2_; (try clear hb); (try clear hb2); (try clear hk); (try clear hi)) | ((with_reducible refine gate_builtin (b := .append) (xs := #[.tmp 43, .tmp 49]) rfl ?_); at_builtin; refine Kd.R_append k31 (w0 := w) w.heap.size rfl (.tmp 43) (.tmp 49) 26 31 (.agg #[(.int .i64 0), (.int .i64 0)]) 16 rfl Try.underlying26 info31 rfl (by decide) (by omega) u12 x12_1 (⟨x13_1, t288⟩ : S31) [.int .i64 x13_1, .int .i64 t288] (fun k_ => some k_ ≠ (.slice (some ad287) t281.length co9 : Value).ownBlock) (fun _ => False) rfl rfl ?aP (fun _ hk => hk.elim) ?aF ?aO ?aB ?aS ?aL ?_; (case aP => exact k31_mkM _ _ _ (⟨x13_1, t288⟩ : S31)); (case aB => exact (by repeat (first | (with_reducible first | exact HB.out | apply below_alloc | apply pw_below_drewN | apply below_drew1) | exact HB.out))); (case aF => exact (fun k_ hk => Kd.fresh' (Kd.R_lt (by (with_reducible repeat (first | apply Kd.R_alloc | apply Kd.R_drewN | apply Kd.R_drew)); exact HO_9.out)) k_ hk)); (case aO => exact (by (with_reducible repeat (first | apply Kd.R_alloc | apply Kd.R_drewN | apply Kd.R_drew)); exact HO_12.out)); (case aS => exact (below_size (by repeat (first | (with_reducible first | exact HB.out | apply below_alloc | apply pw_below_drewN | apply below_drew1) | exact HB.out)))); (case aL => have := LMc17.out; omega); intro v290 w19 ho hb hg hat; rw [← Ny289.out] at ho; have n0_ := Aside0.mk (Kd.R_after (ok := (fun _ => True)) (by (with_reducible repeat (first | apply Kd.R_alloc | apply Kd.R_drewN | apply Kd.R_drew)); exact Kd.R_mono HO_9.out (fun _ hk => ⟨trivial, hk⟩)) hg hat); have n1_ := Aside0.mk (hb); have n2_ := Aside0.mk (ho); clear HO_9; clear HB; clear HO_12; have HO_9 := n0_; have HB := n1_; have HO291 := n2_; clear n0_ n1_ n2_; clear ho hb hg hat))
                    repeat (go_quiet (first | (go_at_call 27; (with_reducible refine (reefref12_weight.calls _ _ l1 x13_1 t288 _ ?side1 ?side2 A16.out).mono ?_); (case side1 => repeat (first | exact (Kd.C_below HR1.out HB.out) | (with_reducible refine Kd.C_alloc ?_ _) | (with_reducible refine Kd.C_drewN ?_ _) | (with_reducible refine Kd.C_drew ?_))); (case side2 => exact HC1.out); rintro e w18 ⟨rfl, hb⟩; have n0_ := Aside0.mk (Kd.R_below (by (with_reducible repeat (first | apply Kd.R_alloc | apply Kd.R_drewN | apply Kd.R_drew)); exact HO_9.out) hb); have n1_ := Aside0.mk (Kd.R_below (by (with_reducible repeat (first | apply Kd.R_alloc | apply Kd.R_drewN | apply Kd.R_drew)); exact HO_12.out) hb); have n2_ := Aside0.mk (below_step (by repeat (first | (with_reducible first | exact HB.out | apply below_alloc | apply pw_below_drewN | apply below_drew1) | exact HB.out)) hb); clear HO_9; clear HO_12; clear HB; have HO_9 := n0_; have HO_12 := n1_; have HB := n2_; clear n0_ n1_ n2_; (try clear hb); (try clear hb2); (try clear hk); (try clear hi)) | ((with_reducible refine gate_builtin (b := .append) (xs := #[.tmp 43, .tmp 49]) rfl ?_); at_builtin; refine Kd.R_append k31 (w0 := w) w.heap.size rfl (.tmp 43) (.tmp 49) 26 31 (.agg #[(.int .i64 0), (.int .i64 0)]) 16 rfl Try.underlying26 info31 rfl (by decide) (by omega) u12 x12_1 (⟨x13_1, t288⟩ : S31) [.int .i64 x13_1, .int .i64 t288] (fun k_ => some k_ ≠ (.slice (some ad287) t281.length co9 : Value).ownBlock) (fun _ => False) rfl rfl ?aP (fun _ hk => hk.elim) ?aF ?aO ?aB ?aS ?aL ?_; (case aP => exact k31_mkM _ _ _ (⟨x13_1, t288⟩ : S31)); (case aB => exact (by repeat (first | (with_reducible first | exact HB.out | apply below_alloc | apply pw_below_drewN | apply below_drew1) | exact HB.out))); (case aF => exact (fun k_ hk => Kd.fresh' (Kd.R_lt (by (with_reducible repeat (first | apply Kd.R_alloc | apply Kd.R_drewN | apply Kd.R_drew)); exact HO_9.out)) k_ hk)); (case aO => exact (by (with_reducible repeat (first | apply Kd.R_alloc | apply Kd.R_drewN | apply Kd.R_drew)); exact HO_12.out)); (case aS => exact (below_size (by repeat (first | (with_reducible first | exact HB.out | apply below_alloc | apply pw_below_drewN | apply below_drew1) | exact HB.out)))); (case aL => have := LMc17.out; omega); intro v290 w19 ho hb hg hat; rw [← Ny289.out] at ho; have n0_ := Aside0.mk (Kd.R_after (ok := (fun _ => True)) (by (with_reducible repeat (first | apply Kd.R_alloc | apply Kd.R_drewN | apply Kd.R_drew)); exact Kd.R_mono HO_9.out (fun _ hk => ⟨trivial, hk⟩)) hg hat); have n1_ := Aside0.mk (hb); have n2_ := Aside0.mk (ho); clear HO_9; clear HB; clear HO_12; have HO_9 := n0_; have HB := n1_; have HO291 := n2_; clear n0_ n1_ n2_; clear ho hb hg hat)); try go_wp2_with (first | (go_at_call 27; (with_reducible refine (reefref12_weight.calls _ _ l1 x13_1 t288 _ ?side1 ?side2 A16.out).mono ?_); (case side1 => repeat (first | exact (Kd.C_below HR1.out HB.out) | (with_reducible refine Kd.C_alloc ?_ _) | (with_reducible refine Kd.C_drewN ?_ _) | (with_reducible refine Kd.C_drew ?_))); (case side2 => exact HC1.out); rintro e w18 ⟨rfl, hb⟩; have n0_ := Aside0.mk (Kd.R_below (by (with_reducible repeat (first | apply Kd.R_alloc | apply Kd.R_drewN | apply Kd.R_drew)); exact HO_9.out) hb); have n1_ := Aside0.mk (Kd.R_below (by (with_reducible repeat (first | apply Kd.R_alloc | apply Kd.R_drewN | apply Kd.R_drew)); exact HO_12.out) hb); have n2_ := Aside0.mk (below_step (by repeat (first | (with_reducible first | exact HB.out | apply below_alloc | apply pw_below_drewN | apply below_drew1) | exact HB.out)) hb); clear HO_9; clear HO_12; clear HB; have HO_9 := n0_; have HO_12 := n1_; have HB := n2_; clear n0_ n1_ n2_; (try clear hb); (try clear hb2); (try clear hk); (try clear hi)) | ((with_reducible refine gate_builtin (b := .append) (xs := #[.tmp 43, .tmp 49]) rfl ?_); at_builtin; refine Kd.R_append k31 (w0 := w) w.heap.size rfl (.tmp 43) (.tmp 49) 26 31 (.agg #[(.int .i64 0), (.int .i64 0)]) 16 rfl Try.underlying26 info31 rfl (by decide) (by omega) u12 x12_1 (⟨x13_1, t288⟩ : S31) [.int .i64 x13_1, .int .i64 t288] (fun k_ => some k_ ≠ (.slice (some ad287) t281.length co9 : Value).ownBlock) (fun _ => False) rfl rfl ?aP (fun _ hk => hk.elim) ?aF ?aO ?aB ?aS ?aL ?_; (case aP => exact k31_mkM _ _ _ (⟨x13_1, t288⟩ : S31)); (case aB => exact (by repeat (first | (with_reducible first | exact HB.out | apply below_alloc | apply pw_below_drewN | apply below_drew1) | exact HB.out))); (case aF => exact (fun k_ hk => Kd.fresh' (Kd.R_lt (by (with_reducible repeat (first | apply Kd.R_alloc | apply Kd.R_drewN | apply Kd.R_drew)); exact HO_9.out)) k_ hk)); (case aO => exact (by (with_reducible repeat (first | apply Kd.R_alloc | apply Kd.R_drewN | apply Kd.R_drew)); exact HO_12.out)); (case aS => exact (below_size (by repeat (first | (with_reducible first | exact HB.out | apply below_alloc | apply pw_below_drewN | apply below_drew1) | exact HB.out)))); (case aL => have := LMc17.out; omega); intro v290 w19 ho hb hg hat; rw [← Ny289.out] at ho; have n0_ := Aside0.mk (Kd.R_after (ok := (fun _ => True)) (by (with_reducible repeat (first | apply Kd.R_alloc | apply Kd.R_drewN | apply Kd.R_drew)); exact Kd.R_mono HO_9.out (fun _ hk => ⟨trivial, hk⟩)) hg hat); have n1_ := Aside0.mk (hb); have n2_ := Aside0.mk (ho); clear HO_9; clear HB; clear HO_12; have HO_9 := n0_; have HB := n1_; have HO291 := n2_; clear n0_ n1_ n2_; clear ho hb hg hat)))
                    go_roundg k1
                    case measure => have := HK1.out; omega
                    case rel => exact ⟨(y289), (wrap64 (x13_1 + 1)), (by first | rfl | (simp; done) | (simp [*]; done)), H', ⟨by have := HK1.out; omega⟩, ⟨by (with_reducible repeat (first | apply Kd.R_alloc | apply Kd.R_drewN | apply Kd.R_drew)); exact Kd.R_mono HO_9.out (fun _ hk => hk.2)⟩, ⟨by (with_reducible repeat (first | apply Kd.R_alloc | apply Kd.R_drewN | apply Kd.R_drew)); exact HO291.out⟩, ⟨by repeat (first | (with_reducible first | exact HB.out | apply below_alloc | apply pw_below_drewN | apply below_drew1) | exact HB.out)⟩⟩
                  · rw [if_neg c17] at H
                    exact absurd H (by simp)
                · rw [if_neg c15] at H
                  have c15b0 : ((rd l0 x13_1) == ((rd_T31 t281 t284).f0)) = false := beq_eq_false_iff_ne.mpr c15
                  have c15b1 : ((rd l0 x13_1) != ((rd_T31 t281 t284).f0)) = true := bne_iff_ne.mpr c15
                  have H' := Aside0.mk H
                  clear H
                  have p286 : 0 ≤ (x13_1 : Int) := of_decide_eq_true (by first | (with_reducible assumption) | assumption)
                  have q286 : x13_1 < (l0.length : Int) := of_decide_eq_true (by first | (with_reducible assumption) | assumption)
                  obtain ⟨ad286, e286, hx286_0⟩ := Kd.at_int HR0.out x13_1 p286 q286
                  cases e286
                  replace hx286_0 := (HB.out.cell (World.block_lt_of_cell? w _ hx286_0)).trans hx286_0
                  replace p286 := eq_true p286
                  replace q286 := eq_true q286
                  have p287 : 0 ≤ (t284 : Int) := of_decide_eq_true (by first | (with_reducible assumption) | assumption)
                  have q287 : t284 < (t281.length : Int) := of_decide_eq_true (by first | (with_reducible assumption) | assumption)
                  obtain ⟨ad287, e287, hx287_0, hx287_1⟩ := at_T31 (Kd.R_reads' HO_9.out).2.2 t284 p287 q287
                  cases e287
                  replace p287 := eq_true p287
                  replace q287 := eq_true q287
                  go_wp2
                  repeat (go_quiet (fail); try go_wp2)
                  go_roundg k1
                  case measure => have := HK1.out; omega
                  case rel => exact ⟨(x12_1), (wrap64 (x13_1 + 1)), (by first | rfl | (simp; done) | (simp [*]; done)), H', ⟨by have := HK1.out; omega⟩, ⟨by (with_reducible repeat (first | apply Kd.R_alloc | apply Kd.R_drewN | apply Kd.R_drew)); exact HO_9.out⟩, ⟨by (with_reducible repeat (first | apply Kd.R_alloc | apply Kd.R_drewN | apply Kd.R_drew)); exact HO_12.out⟩, ⟨by repeat (first | (with_reducible first | exact HB.out | apply below_alloc | apply pw_below_drewN | apply below_drew1) | exact HB.out)⟩⟩
              · rw [if_neg c14] at H
                exact absurd H (by simp)
            · rw [if_neg c13] at H
              exact absurd H (by simp)
          · rw [if_neg c12] at H
            exact absurd H (by simp)
        · rw [if_neg c11] at H
          have c11b0 : decide (x13_1 < (l0.length : Int)) = false := decide_eq_false c11
          clear c11
          replace H := Option.bind_eq_some_iff.mp H
          obtain ⟨⟨t292, t293⟩, A200, H⟩ := H
          replace H : (if t293 = true then (if 0 ≤ t292 then (if t292 < (x12_1.length : Int) then (some ((rd_T31 x12_1 t292).f0)) else (none)) else (none)) else (some (-1))) = some r := H
          have A20 := Aside0.mk A200
          clear A200
          by_cases c21 : t293 = true
          · subst c21
            have H1 : (if 0 ≤ t292 then (if t292 < (x12_1.length : Int) then (some ((rd_T31 x12_1 t292).f0)) else (none)) else (none)) = some r := by rw [if_pos rfl] at H; exact H
            clear H
            have H := H1
            clear H1
            by_cases c22 : 0 ≤ t292
            · rw [if_pos c22] at H
              have c22b0 : decide (0 ≤ t292) = true := decide_eq_true c22
              clear c22
              by_cases c23 : t292 < (x12_1.length : Int)
              · rw [if_pos c23] at H
                have c23b0 : decide (t292 < (x12_1.length : Int)) = true := decide_eq_true c23
                clear c23
                obtain rfl := Option.some.inj H
                obtain ⟨Ao24, co24, eo24⟩ := Kd.R_slice HO_12.out
                subst eo24
                go_wp2_with (first | (go_at_call 43; (with_reducible refine (reefref11_Choose.calls k1 _ _ x12_1 a2 (wrap64 (a3 + 64)) t292 true _ ?side1 ?side2 A20.out).mono ?_); (case side1 => repeat (first | exact (Kd.R_reads' HO_12.out).2.2 | (with_reducible refine Kd.C_alloc ?_ _) | (with_reducible refine Kd.C_drewN ?_ _) | (with_reducible refine Kd.C_drew ?_))); (case side2 => exact (Kd.R_reads' HO_12.out).2.1); rintro e w25 ⟨rfl, hb⟩; have n0_ := Aside0.mk (Kd.R_below (by (with_reducible repeat (first | apply Kd.R_alloc | apply Kd.R_drewN | apply Kd.R_drew)); exact HO_9.out) hb); have n1_ := Aside0.mk (Kd.R_below (by (with_reducible repeat (first | apply Kd.R_alloc | apply Kd.R_drewN | apply Kd.R_drew)); exact HO_12.out) hb); have n2_ := Aside0.mk (below_step (by repeat (first | (with_reducible first | exact HB.out | apply below_alloc | apply pw_below_drewN | apply below_drew1) | exact HB.out)) hb); clear HO_9; clear HO_12; clear HB; have HO_9 := n0_; have HO_12 := n1_; have HB := n2_; clear n0_ n1_ n2_; (try clear hb); (try clear hb2); (try clear hk); (try clear hi); have p294 : 0 ≤ (t292 : Int) := of_decide_eq_true (by first | (with_reducible assumption) | assumption); have q294 : t292 < (x12_1.length : Int) := of_decide_eq_true (by first | (with_reducible assumption) | assumption); obtain ⟨ad294, e294, hx294_0, hx294_1⟩ := at_T31 (Kd.R_reads' HO_12.out).2.2 t292 p294 q294; cases e294; replace p294 := eq_true p294; replace q294 := eq_true q294))
                repeat (go_quiet (first | (go_at_call 43; (with_reducible refine (reefref11_Choose.calls k1 _ _ x12_1 a2 (wrap64 (a3 + 64)) t292 true _ ?side1 ?side2 A20.out).mono ?_); (case side1 => repeat (first | exact (Kd.R_reads' HO_12.out).2.2 | (with_reducible refine Kd.C_alloc ?_ _) | (with_reducible refine Kd.C_drewN ?_ _) | (with_reducible refine Kd.C_drew ?_))); (case side2 => exact (Kd.R_reads' HO_12.out).2.1); rintro e w25 ⟨rfl, hb⟩; have n0_ := Aside0.mk (Kd.R_below (by (with_reducible repeat (first | apply Kd.R_alloc | apply Kd.R_drewN | apply Kd.R_drew)); exact HO_9.out) hb); have n1_ := Aside0.mk (Kd.R_below (by (with_reducible repeat (first | apply Kd.R_alloc | apply Kd.R_drewN | apply Kd.R_drew)); exact HO_12.out) hb); have n2_ := Aside0.mk (below_step (by repeat (first | (with_reducible first | exact HB.out | apply below_alloc | apply pw_below_drewN | apply below_drew1) | exact HB.out)) hb); clear HO_9; clear HO_12; clear HB; have HO_9 := n0_; have HO_12 := n1_; have HB := n2_; clear n0_ n1_ n2_; (try clear hb); (try clear hb2); (try clear hk); (try clear hi); have p294 : 0 ≤ (t292 : Int) := of_decide_eq_true (by first | (with_reducible assumption) | assumption); have q294 : t292 < (x12_1.length : Int) := of_decide_eq_true (by first | (with_reducible assumption) | assumption); obtain ⟨ad294, e294, hx294_0, hx294_1⟩ := at_T31 (Kd.R_reads' HO_12.out).2.2 t292 p294 q294; cases e294; replace p294 := eq_true p294; replace q294 := eq_true q294)); try go_wp2_with (first | (go_at_call 43; (with_reducible refine (reefref11_Choose.calls k1 _ _ x12_1 a2 (wrap64 (a3 + 64)) t292 true _ ?side1 ?side2 A20.out).mono ?_); (case side1 => repeat (first | exact (Kd.R_reads' HO_12.out).2.2 | (with_reducible refine Kd.C_alloc ?_ _) | (with_reducible refine Kd.C_drewN ?_ _) | (with_reducible refine Kd.C_drew ?_))); (case side2 => exact (Kd.R_reads' HO_12.out).2.1); rintro e w25 ⟨rfl, hb⟩; have n0_ := Aside0.mk (Kd.R_below (by (with_reducible repeat (first | apply Kd.R_alloc | apply Kd.R_drewN | apply Kd.R_drew)); exact HO_9.out) hb); have n1_ := Aside0.mk (Kd.R_below (by (with_reducible repeat (first | apply Kd.R_alloc | apply Kd.R_drewN | apply Kd.R_drew)); exact HO_12.out) hb); have n2_ := Aside0.mk (below_step (by repeat (first | (with_reducible first | exact HB.out | apply below_alloc | apply pw_below_drewN | apply below_drew1) | exact HB.out)) hb); clear HO_9; clear HO_12; clear HB; have HO_9 := n0_; have HO_12 := n1_; have HB := n2_; clear n0_ n1_ n2_; (try clear hb); (try clear hb2); (try clear hk); (try clear hi); have p294 : 0 ≤ (t292 : Int) := of_decide_eq_true (by first | (with_reducible assumption) | assumption); have q294 : t292 < (x12_1.length : Int) := of_decide_eq_true (by first | (with_reducible assumption) | assumption); obtain ⟨ad294, e294, hx294_0, hx294_1⟩ := at_T31 (Kd.R_reads' HO_12.out).2.2 t292 p294 q294; cases e294; replace p294 := eq_true p294; replace q294 := eq_true q294)))
                go_ret
                exact ⟨by first | rfl | (simp [errW_none, errW_some] <;> rfl) | (simp [*, errW_none, errW_some] <;> rfl), by repeat (first | (with_reducible first | exact HB.out | apply below_alloc | apply pw_below_drewN | apply below_drew1) | exact HB.out)⟩
              · rw [if_neg c23] at H
                exact absurd H (by simp)
            · rw [if_neg c22] at H
              exact absurd H (by simp)
          · replace c21 := Bool.eq_false_iff.mpr c21
            subst c21
            have H1 : (some (-1)) = some r := by rw [if_neg (show ¬ (false = true) by decide)] at H; exact H
            clear H
            have H := H1
            clear H1
            obtain rfl := Option.some.inj H
            obtain ⟨Ao26, co26, eo26⟩ := Kd.R_slice HO_12.out
            subst eo26
            go_wp2_with (first | (go_at_call 43; (with_reducible refine (reefref11_Choose.calls k1 _ _ x12_1 a2 (wrap64 (a3 + 64)) t292 false _ ?side1 ?side2 A20.out).mono ?_); (case side1 => repeat (first | exact (Kd.R_reads' HO_12.out).2.2 | (with_reducible refine Kd.C_alloc ?_ _) | (with_reducible refine Kd.C_drewN ?_ _) | (with_reducible refine Kd.C_drew ?_))); (case side2 => exact (Kd.R_reads' HO_12.out).2.1); rintro e w27 ⟨rfl, hb⟩; have n0_ := Aside0.mk (Kd.R_below (by (with_reducible repeat (first | apply Kd.R_alloc | apply Kd.R_drewN | apply Kd.R_drew)); exact HO_9.out) hb); have n1_ := Aside0.mk (Kd.R_below (by (with_reducible repeat (first | apply Kd.R_alloc | apply Kd.R_drewN | apply Kd.R_drew)); exact HO_12.out) hb); have n2_ := Aside0.mk (below_step (by repeat (first | (with_reducible first | exact HB.out | apply below_alloc | apply pw_below_drewN | apply below_drew1) | exact HB.out)) hb); clear HO_9; clear HO_12; clear HB; have HO_9 := n0_; have HO_12 := n1_; have HB := n2_; clear n0_ n1_ n2_; (try clear hb); (try clear hb2); (try clear hk); (try clear hi)))
            repeat (go_quiet (first | (go_at_call 43; (with_reducible refine (reefref11_Choose.calls k1 _ _ x12_1 a2 (wrap64 (a3 + 64)) t292 false _ ?side1 ?side2 A20.out).mono ?_); (case side1 => repeat (first | exact (Kd.R_reads' HO_12.out).2.2 | (with_reducible refine Kd.C_alloc ?_ _) | (with_reducible refine Kd.C_drewN ?_ _) | (with_reducible refine Kd.C_drew ?_))); (case side2 => exact (Kd.R_reads' HO_12.out).2.1); rintro e w27 ⟨rfl, hb⟩; have n0_ := Aside0.mk (Kd.R_below (by (with_reducible repeat (first | apply Kd.R_alloc | apply Kd.R_drewN | apply Kd.R_drew)); exact HO_9.out) hb); have n1_ := Aside0.mk (Kd.R_below (by (with_reducible repeat (first | apply Kd.R_alloc | apply Kd.R_drewN | apply Kd.R_drew)); exact HO_12.out) hb); have n2_ := Aside0.mk (below_step (by repeat (first | (with_reducible first | exact HB.out | apply below_alloc | apply pw_below_drewN | apply below_drew1) | exact HB.out)) hb); clear HO_9; clear HO_12; clear HB; have HO_9 := n0_; have HO_12 := n1_; have HB := n2_; clear n0_ n1_ n2_; (try clear hb); (try clear hb2); (try clear hk); (try clear hi))); try go_wp2_with (first | (go_at_call 43; (with_reducible refine (reefref11_Choose.calls k1 _ _ x12_1 a2 (wrap64 (a3 + 64)) t292 false _ ?side1 ?side2 A20.out).mono ?_); (case side1 => repeat (first | exact (Kd.R_reads' HO_12.out).2.2 | (with_reducible refine Kd.C_alloc ?_ _) | (with_reducible refine Kd.C_drewN ?_ _) | (with_reducible refine Kd.C_drew ?_))); (case side2 => exact (Kd.R_reads' HO_12.out).2.1); rintro e w27 ⟨rfl, hb⟩; have n0_ := Aside0.mk (Kd.R_below (by (with_reducible repeat (first | apply Kd.R_alloc | apply Kd.R_drewN | apply Kd.R_drew)); exact HO_9.out) hb); have n1_ := Aside0.mk (Kd.R_below (by (with_reducible repeat (first | apply Kd.R_alloc | apply Kd.R_drewN | apply Kd.R_drew)); exact HO_12.out) hb); have n2_ := Aside0.mk (below_step (by repeat (first | (with_reducible first | exact HB.out | apply below_alloc | apply pw_below_drewN | apply below_drew1) | exact HB.out)) hb); clear HO_9; clear HO_12; clear HB; have HO_9 := n0_; have HO_12 := n1_; have HB := n2_; clear n0_ n1_ n2_; (try clear hb); (try clear hb2); (try clear hk); (try clear hi))))
            go_ret
            exact ⟨by first | rfl | (simp [errW_none, errW_some] <;> rfl) | (simp [*, errW_none, errW_some] <;> rfl), by repeat (first | (with_reducible first | exact HB.out | apply below_alloc | apply pw_below_drewN | apply below_drew1) | exact HB.out)⟩
  · replace c7 := Bool.eq_false_iff.mpr c7
    subst c7
    have H1 : (some (-1)) = some r := by rw [if_neg (show ¬ (false = true) by decide)] at H; exact H
    clear H
    have H := H1
    clear H1
    obtain rfl := Option.some.inj H
    go_enter Try.func34, Try.ntmps34
    go_wp2_with (first | (go_at_call 11; (with_reducible refine (reefref12_Items.calls k _ _ l0 _ _ l1 t281 _ ?side1 ?side2 ?side3 ?side4 A5.out).mono ?_); (case side1 => repeat (first | exact HR0.out | (with_reducible refine Kd.C_alloc ?_ _) | (with_reducible refine Kd.C_drewN ?_ _) | (with_reducible refine Kd.C_drew ?_))); (case side2 => exact HC0.out); (case side3 => repeat (first | exact HR1.out | (with_reducible refine Kd.C_alloc ?_ _) | (with_reducible refine Kd.C_drewN ?_ _) | (with_reducible refine Kd.C_drew ?_))); (case side4 => exact HC1.out); rintro e w28 ⟨v282, rfl, ho0, hb⟩; have n0_ := Aside0.mk (Kd.R_lower ho0 (below_size (by repeat (first | (with_reducible first | exact HB.out | apply below_alloc | apply pw_below_drewN | apply below_drew1) | exact HB.out)))); have n1_ := Aside0.mk (below_step (by repeat (first | (with_reducible first | exact HB.out | apply below_alloc | apply pw_below_drewN | apply below_drew1) | exact HB.out)) hb); clear HB; have HO283 := n0_; have HB := n1_; clear n0_ n1_; (try clear hb); (try clear hb2); (try clear hk); (try clear hi); (try clear ho0); obtain ⟨Ao29, co29, eo29⟩ := Kd.R_slice HO283.out; subst eo29) | (go_at_call 43; (with_reducible refine (reefref11_Choose.calls k _ _ t281 a2 a3 t284 false _ ?side1 ?side2 A6.out).mono ?_); (case side1 => repeat (first | exact (Kd.R_reads' HO283.out).2.2 | (with_reducible refine Kd.C_alloc ?_ _) | (with_reducible refine Kd.C_drewN ?_ _) | (with_reducible refine Kd.C_drew ?_))); (case side2 => exact (Kd.R_reads' HO283.out).2.1); rintro e w30 ⟨rfl, hb⟩; have n0_ := Aside0.mk (Kd.R_below (by (with_reducible repeat (first | apply Kd.R_alloc | apply Kd.R_drewN | apply Kd.R_drew)); exact HO283.out) hb); have n1_ := Aside0.mk (below_step (by repeat (first | (with_reducible first | exact HB.out | apply below_alloc | apply pw_below_drewN | apply below_drew1) | exact HB.out)) hb); clear HO283; clear HB; have HO283 := n0_; have HB := n1_; clear n0_ n1_; (try clear hb); (try clear hb2); (try clear hk); (try clear hi)))
    repeat (go_quiet (first | (go_at_call 11; (with_reducible refine (reefref12_Items.calls k _ _ l0 _ _ l1 t281 _ ?side1 ?side2 ?side3 ?side4 A5.out).mono ?_); (case side1 => repeat (first | exact HR0.out | (with_reducible refine Kd.C_alloc ?_ _) | (with_reducible refine Kd.C_drewN ?_ _) | (with_reducible refine Kd.C_drew ?_))); (case side2 => exact HC0.out); (case side3 => repeat (first | exact HR1.out | (with_reducible refine Kd.C_alloc ?_ _) | (with_reducible refine Kd.C_drewN ?_ _) | (with_reducible refine Kd.C_drew ?_))); (case side4 => exact HC1.out); rintro e w28 ⟨v282, rfl, ho0, hb⟩; have n0_ := Aside0.mk (Kd.R_lower ho0 (below_size (by repeat (first | (with_reducible first | exact HB.out | apply below_alloc | apply pw_below_drewN | apply below_drew1) | exact HB.out)))); have n1_ := Aside0.mk (below_step (by repeat (first | (with_reducible first | exact HB.out | apply below_alloc | apply pw_below_drewN | apply below_drew1) | exact HB.out)) hb); clear HB; have HO283 := n0_; have HB := n1_; clear n0_ n1_; (try clear hb); (try clear hb2); (try clear hk); (try clear hi); (try clear ho0); obtain ⟨Ao29, co29, eo29⟩ := Kd.R_slice HO283.out; subst eo29) | (go_at_call 43; (with_reducible refine (reefref11_Choose.calls k _ _ t281 a2 a3 t284 false _ ?side1 ?side2 A6.out).mono ?_); (case side1 => repeat (first | exact (Kd.R_reads' HO283.out).2.2 | (with_reducible refine Kd.C_alloc ?_ _) | (with_reducible refine Kd.C_drewN ?_ _) | (with_reducible refine Kd.C_drew ?_))); (case side2 => exact (Kd.R_reads' HO283.out).2.1); rintro e w30 ⟨rfl, hb⟩; have n0_ := Aside0.mk (Kd.R_below (by (with_reducible repeat (first | apply Kd.R_alloc | apply Kd.R_drewN | apply Kd.R_drew)); exact HO283.out) hb); have n1_ := Aside0.mk (below_step (by repeat (first | (with_reducible first | exact HB.out | apply below_alloc | apply pw_below_drewN | apply below_drew1) | exact HB.out)) hb); clear HO283; clear HB; have HO283 := n0_; have HB := n1_; clear n0_ n1_; (try clear hb); (try clear hb2); (try clear hk); (try clear hi))); try go_wp2_with (first | (go_at_call 11; (with_reducible refine (reefref12_Items.calls k _ _ l0 _ _ l1 t281 _ ?side1 ?side2 ?side3 ?side4 A5.out).mono ?_); (case side1 => repeat (first | exact HR0.out | (with_reducible refine Kd.C_alloc ?_ _) | (with_reducible refine Kd.C_drewN ?_ _) | (with_reducible refine Kd.C_drew ?_))); (case side2 => exact HC0.out); (case side3 => repeat (first | exact HR1.out | (with_reducible refine Kd.C_alloc ?_ _) | (with_reducible refine Kd.C_drewN ?_ _) | (with_reducible refine Kd.C_drew ?_))); (case side4 => exact HC1.out); rintro e w28 ⟨v282, rfl, ho0, hb⟩; have n0_ := Aside0.mk (Kd.R_lower ho0 (below_size (by repeat (first | (with_reducible first | exact HB.out | apply below_alloc | apply pw_below_drewN | apply below_drew1) | exact HB.out)))); have n1_ := Aside0.mk (below_step (by repeat (first | (with_reducible first | exact HB.out | apply below_alloc | apply pw_below_drewN | apply below_drew1) | exact HB.out)) hb); clear HB; have HO283 := n0_; have HB := n1_; clear n0_ n1_; (try clear hb); (try clear hb2); (try clear hk); (try clear hi); (try clear ho0); obtain ⟨Ao29, co29, eo29⟩ := Kd.R_slice HO283.out; subst eo29) | (go_at_call 43; (with_reducible refine (reefref11_Choose.calls k _ _ t281 a2 a3 t284 false _ ?side1 ?side2 A6.out).mono ?_); (case side1 => repeat (first | exact (Kd.R_reads' HO283.out).2.2 | (with_reducible refine Kd.C_alloc ?_ _) | (with_reducible refine Kd.C_drewN ?_ _) | (with_reducible refine Kd.C_drew ?_))); (case side2 => exact (Kd.R_reads' HO283.out).2.1); rintro e w30 ⟨rfl, hb⟩; have n0_ := Aside0.mk (Kd.R_below (by (with_reducible repeat (first | apply Kd.R_alloc | apply Kd.R_drewN | apply Kd.R_drew)); exact HO283.out) hb); have n1_ := Aside0.mk (below_step (by repeat (first | (with_reducible first | exact HB.out | apply below_alloc | apply pw_below_drewN | apply below_drew1) | exact HB.out)) hb); clear HO283; clear HB; have HO283 := n0_; have HB := n1_; clear n0_ n1_; (try clear hb); (try clear hb2); (try clear hk); (try clear hi))))
    go_ret
    exact ⟨by first | rfl | (simp [errW_none, errW_some] <;> rfl) | (simp [*, errW_none, errW_some] <;> rfl), by repeat (first | (with_reducible first | exact HB.out | apply below_alloc | apply pw_below_drewN | apply below_drew1) | exact HB.out)⟩
end Go.Proofs.Ytbaldkcnipmdjaa.P
namespace Go.Proofs.Ytbaldkcnipmdjaa.P
open Go.RowKit Go.Proofs.YtbaldkcnipmdjaaW.PrintWords Go.Proofs.YtbaldkcnipmdjaaW.PrintLast Go.Proofs.YtbaldkcnipmdjaaW.PrintMore
attribute [local go_sem] max2_int min2_int max_two min_two max_three min_three max_four min_four
set_option linter.unusedVariables false
set_option linter.unusedSimpArgs false
mutual
def reefref12_Place.l0 : Nat → List Int → List Int → Int → Int → Int → List Int → Int → Option (List Int)
  | 0, _, _, _, _, _, _, _ => none
  | k + 1, x0, x1, x2, x3, x4, x11, x12 => if x12 < 64 then (reefref12_Place.j1 k x0 x1 x2 x3 x4 x11 x12 (decide ((x11.length : Int) < x3))) else (reefref12_Place.j1 k x0 x1 x2 x3 x4 x11 x12 false)
def reefref12_Place.j1 : Nat → List Int → List Int → Int → Int → Int → List Int → Int → Bool → Option (List Int)
  | 0, _, _, _, _, _, _, _, _ => none
  | k + 1, x0, x1, x2, x3, x4, x11, x12, x23 => if x23 = true then ((reefref12_try.f k x0 x1 x2 x12).bind fun t297 => (reefref12_Place.l1 k x0 x1 x2 x3 x4 x11 x12 t297 (decide (t297 ≥ 0)) 0)) else (some x11)
def reefref12_Place.l1 : Nat → List Int → List Int → Int → Int → Int → List Int → Int → Int → Bool → Int → Option (List Int)
  | 0, _, _, _, _, _, _, _, _, _, _ => none
  | k + 1, x0, x1, x2, x3, x4, x11, x12, x13, x14, x15 => if x15 < (x11.length : Int) then (if x14 = true then (if 0 ≤ x15 then ((reefref12_clash.f x0 (rd x11 x15) x13 x4).bind fun t299 => (reefref12_Place.l1 k x0 x1 x2 x3 x4 x11 x12 x13 (!t299) (wrap64 (x15 + 1)))) else (none)) else (reefref12_Place.l0 k x0 x1 x2 x3 x4 x11 (wrap64 (x12 + 1)))) else (if x14 = true then (if x11.length < 17592186044416 then (reefref12_Place.l0 k x0 x1 x2 x3 x4 (x11 ++ [x13]) (wrap64 (x12 + 1))) else (none)) else (reefref12_Place.l0 k x0 x1 x2 x3 x4 x11 (wrap64 (x12 + 1))))
end
def reefref12_Place.f (k : Nat) (l0 : List Int) (l1 : List Int) (a2 : Int) (a3 : Int) (a4 : Int) : Option (List Int) := reefref12_Place.l0 k l0 l1 a2 a3 a4 ([] : List Int) 0
set_option maxHeartbeats 8000000 in
set_option maxRecDepth 100000 in
theorem reefref12_Place.calls (k : Nat) (A0 : Option Addr) (c0 : Nat) (l0 : List Int) (A1 : Option Addr) (c1 : Nat) (l1 : List Int) (a2 : Int) (a3 : Int) (a4 : Int) (r : List Int) (w : World) (hr0 : Kd.C (Kd.int .i64) w A0 l0.length l0) (hc0 : l0.length ≤ c0) (hr1 : Kd.C (Kd.int .i64) w A1 l1.length l1) (hc1 : l1.length ≤ c1) (h : reefref12_Place.f k l0 l1 a2 a3 a4 = some r) :
    Calls Try.prog 16 #[.slice A0 l0.length c0, .slice A1 l1.length c1, .int .u32 a2, .int .i64 a3, .int .i64 a4] w fun e w' => ∃ v0_ : Value, e = .returned (v0_) ∧ Kd.R (Kd.int .i64) 3 w' w.heap.size (fun _ => True) v0_ r ∧ Below w.heap.size w w' := by
  have HR0 := Aside0.mk hr0
  have HC0 := Aside0.mk hc0
  clear hr0 hc0
  have HR1 := Aside0.mk hr1
  have HC1 := Aside0.mk hc1
  clear hr1 hc1
  have HB := Aside0.mk (Below.refl w.heap.size w)
  have H : (reefref12_Place.l0 k l0 l1 a2 a3 a4 ([] : List Int) 0) = some r := h
  clear h
  have H' := Aside0.mk H
  clear H
  go_enter Try.func16, Try.ntmps16
  go_wp2
  go_loopg [11, 12] k (fun kq v11 v12 w' => ∃ (x11_1 : List Int) (x12_1 : Int), v12 = .int .i64 x12_1 ∧ Aside0 (reefref12_Place.l0 kq l0 l1 a2 a3 a4 x11_1 x12_1 = some r) ∧ Aside0 (kq ≤ k) ∧ Aside0 (Kd.R (Kd.int .i64) 3 w' w.heap.size (fun _ => True) v11 x11_1) ∧ Aside0 (Below w.heap.size w w'))
  case atStart => exact ⟨(([] : List Int)), (0), (by first | rfl | (simp; done) | (simp [*]; done)), H', ⟨Nat.le_refl _⟩, ⟨by first | exact Kd.R_nil _ _ _ _ _ | exact Kd.N_nil _ _ _ _ _ | exact Kd.V_nil _ _ _ _ _ | exact Kd.Q_nil _ _ _ _ _ | exact Kd.S_nil _ _ _ _ _⟩, ⟨by repeat (first | (with_reducible first | exact HB.out | apply below_alloc | apply pw_below_drewN | apply below_drew1) | exact HB.out)⟩⟩
  case round =>
    clear H'
    try clear c1
    try clear p2
    obtain ⟨x11_1, x12_1, rfl, HA, HK1, HO_11, HB⟩ := hrel
    cases gk with
    | zero => exact absurd HA.out (by simp [reefref12_Place.l0])
    | succ k1 =>
      have H := HA.out
      clear HA
      simp only [reefref12_Place.l0] at H
      have HC6 := Aside0.mk H
      clear H
      go_upto_region 3 with (fail)
      go_cut [23] (fun v23 wc => ∃ (kq : Nat) (x23_5 : Bool), v23 = .bool x23_5 ∧ Aside0 (reefref12_Place.j1 kq l0 l1 a2 a3 a4 x11_1 x12_1 x23_5 = some r) ∧ Aside0 (kq ≤ k1) ∧ Aside0 (Kd.R (Kd.int .i64) 3 wc w.heap.size (fun _ => True) u11 x11_1) ∧ Aside0 (Below w.heap.size w wc))
      case first =>
        have H := HC6.out
        clear HC6
        by_cases c7 : x12_1 < 64
        · rw [if_pos c7] at H
          have c7b0 : decide (x12_1 < 64) = true := decide_eq_true c7
          clear c7
          (first | rw [c7b0] | (simp only [i64_w, i32_w]; rw [c7b0]) | skip)
          have H' := Aside0.mk H
          clear H
          obtain ⟨Ao8, co8, eo8⟩ := Kd.R_slice HO_11.out
          subst eo8
          go_wp2
          go_meet
          case rel => exact ⟨_, (decide ((x11_1.length : Int) < a3)), (by first | rfl | (simp; done) | (simp [*]; done)), H', ⟨by have := HK1.out; first | omega | exact Nat.le_refl _⟩, ⟨by (with_reducible repeat (first | apply Kd.R_alloc | apply Kd.R_drewN | apply Kd.R_drew)); exact HO_11.out⟩, ⟨by repeat (first | (with_reducible first | exact HB.out | apply below_alloc | apply pw_below_drewN | apply below_drew1) | exact HB.out)⟩⟩
        · rw [if_neg c7] at H
          have c7b0 : decide (x12_1 < 64) = false := decide_eq_false c7
          clear c7
          (first | rw [c7b0] | (simp only [i64_w, i32_w]; rw [c7b0]) | skip)
          have H' := Aside0.mk H
          clear H
          go_wp2
          go_meet
          case rel => exact ⟨_, (false), (by first | rfl | (simp; done) | (simp [*]; done)), H', ⟨by have := HK1.out; first | omega | exact Nat.le_refl _⟩, ⟨by (with_reducible repeat (first | apply Kd.R_alloc | apply Kd.R_drewN | apply Kd.R_drew)); exact HO_11.out⟩, ⟨by repeat (first | (with_reducible first | exact HB.out | apply below_alloc | apply pw_below_drewN | apply below_drew1) | exact HB.out)⟩⟩
      case rest =>
        clear HC6
        try clear c1
        try clear p2
        try clear c7
        try clear c7b0
        try clear p2
        obtain ⟨kq, x23_5, rfl, HA, HJ5, HO_11, HB⟩ := hcut
        cases kq with
        | zero => exact absurd HA.out (by simp [reefref12_Place.j1])
        | succ kj5 =>
          have H := HA.out
          clear HA
          simp only [reefref12_Place.j1] at H
          by_cases c9 : x23_5 = true
          · subst c9
            have H1 : ((reefref12_try.f kj5 l0 l1 a2 x12_1).bind fun t297 => (reefref12_Place.l1 kj5 l0 l1 a2 a3 a4 x11_1 x12_1 t297 (decide (t297 ≥ 0)) 0)) = some r := by rw [if_pos rfl] at H; exact H
            clear H
            have H := H1
            clear H1
            replace H := Option.bind_eq_some_iff.mp H
            obtain ⟨t297, A100, H⟩ := H
            replace H : (reefref12_Place.l1 kj5 l0 l1 a2 a3 a4 x11_1 x12_1 t297 (decide (t297 ≥ 0)) 0) = some r := H
            have A10 := Aside0.mk A100
            clear A100
            have H' := Aside0.mk H
            clear H
            go_wp2_with (first | ((with_reducible refine gate_callee (f := 34) rfl ?_); refine goesL_ (some 30) rfl rfl Try.func34 (by kernel_rfl) rfl #[.slice A0 l0.length c0, .slice A1 l1.length c1, .int .u32 a2, .int .i64 x12_1] rfl (by (try simp only [List.map_toArray, List.map_cons, List.map_nil]); first | done | rfl | (simp only [List.length_drop, List.length_take]; rfl)) ?_; (with_reducible refine (reefref12_try.calls kj5 _ _ l0 _ _ l1 a2 x12_1 t297 _ ?side1 ?side2 ?side3 ?side4 A10.out).mono ?_); (case side1 => repeat (first | exact (Kd.C_below HR0.out HB.out) | (with_reducible refine Kd.C_alloc ?_ _) | (with_reducible refine Kd.C_drewN ?_ _) | (with_reducible refine Kd.C_drew ?_))); (case side2 => exact HC0.out); (case side3 => repeat (first | exact (Kd.C_below HR1.out HB.out) | (with_reducible refine Kd.C_alloc ?_ _) | (with_reducible refine Kd.C_drewN ?_ _) | (with_reducible refine Kd.C_drew ?_))); (case side4 => exact HC1.out); rintro e w11 ⟨rfl, hb⟩; refine ⟨_, rfl, ?_⟩; have n0_ := Aside0.mk (Kd.R_below (by (with_reducible repeat (first | apply Kd.R_alloc | apply Kd.R_drewN | apply Kd.R_drew)); exact HO_11.out) hb); have n1_ := Aside0.mk (below_step (by repeat (first | (with_reducible first | exact HB.out | apply below_alloc | apply pw_below_drewN | apply below_drew1) | exact HB.out)) hb); clear HO_11; clear HB; have HO_11 := n0_; have HB := n1_; clear n0_ n1_; (try clear hb); (try clear hb2); (try clear hk); (try clear hi)))
            go_loopg [14, 15] kj5 (fun kq v14 v15 w' => ∃ (x14_3 : Bool) (x15_3 : Int), v14 = .bool x14_3 ∧ v15 = .int .i64 x15_3 ∧ Aside0 (reefref12_Place.l1 kq l0 l1 a2 a3 a4 x11_1 x12_1 t297 x14_3 x15_3 = some r) ∧ Aside0 (kq ≤ kj5) ∧ Aside0 (Kd.R (Kd.int .i64) 3 w' w.heap.size (fun _ => True) u11 x11_1) ∧ Aside0 (Below w.heap.size w w'))
            case atStart => exact ⟨(decide (t297 ≥ 0)), (0), (by first | rfl | (simp; done) | (simp [*]; done)), (by first | rfl | (simp; done) | (simp [*]; done)), H', ⟨Nat.le_refl _⟩, ⟨by (with_reducible repeat (first | apply Kd.R_alloc | apply Kd.R_drewN | apply Kd.R_drew)); exact HO_11.out⟩, ⟨by repeat (first | (with_reducible first | exact HB.out | apply below_alloc | apply pw_below_drewN | apply below_drew1) | exact HB.out)⟩⟩
            case round =>
              clear H'
              try clear c1
              try clear p2
              try clear c3
              try clear c7
              try clear c7b0
              try clear c9
              try clear p2
              obtain ⟨x14_3, x15_3, rfl, rfl, HA, HK3, HO_11, HB⟩ := hrel
              cases gk with
              | zero => exact absurd HA.out (by simp [reefref12_Place.l1])
              | succ k3 =>
                have H := HA.out
                clear HA
                simp only [reefref12_Place.l1] at H
                by_cases c12 : x15_3 < (x11_1.length : Int)
                · rw [if_pos c12] at H
                  have c12b0 : decide (x15_3 < (x11_1.length : Int)) = true := decide_eq_true c12
                  clear c12
                  by_cases c13 : x14_3 = true
                  · subst c13
                    have H1 : (if 0 ≤ x15_3 then ((reefref12_clash.f l0 (rd x11_1 x15_3) t297 a4).bind fun t299 => (reefref12_Place.l1 k3 l0 l1 a2 a3 a4 x11_1 x12_1 t297 (!t299) (wrap64 (x15_3 + 1)))) else (none)) = some r := by rw [if_pos rfl] at H; exact H
                    clear H
                    have H := H1
                    clear H1
                    by_cases c14 : 0 ≤ x15_3
                    · rw [if_pos c14] at H
                      have c14b0 : decide (0 ≤ x15_3) = true := decide_eq_true c14
                      clear c14
                      replace H := Option.bind_eq_some_iff.mp H
                      obtain ⟨t299, A150, H⟩ := H
                      replace H : (reefref12_Place.l1 k3 l0 l1 a2 a3 a4 x11_1 x12_1 t297 (!t299) (wrap64 (x15_3 + 1))) = some r := H
                      have A15 := Aside0.mk A150
                      clear A150
                      have H' := Aside0.mk H
                      clear H
                      obtain ⟨Ao16, co16, eo16⟩ := Kd.R_slice HO_11.out
                      subst eo16
                      have p298 : 0 ≤ (x15_3 : Int) := of_decide_eq_true (by first | (with_reducible assumption) | assumption)
                      have q298 : x15_3 < (x11_1.length : Int) := of_decide_eq_true (by first | (with_reducible assumption) | assumption)
                      obtain ⟨ad298, e298, hx298_0⟩ := Kd.at_int (Kd.R_reads' HO_11.out).2.2 x15_3 p298 q298
                      cases e298
                      replace p298 := eq_true p298
                      replace q298 := eq_true q298
                      go_wp2_with (first | ((with_reducible refine gate_callee (f := 35) rfl ?_); refine goesL_ (some 49) rfl rfl Try.func35 (by kernel_rfl) rfl #[.slice A0 l0.length c0, .int .i64 (rd x11_1 x15_3), .int .i64 t297, .int .i64 a4] rfl (by (try simp only [List.map_toArray, List.map_cons, List.map_nil]); first | done | rfl | (simp only [List.length_drop, List.length_take]; rfl)) ?_; (with_reducible refine (reefref12_clash.calls _ _ l0 (rd x11_1 x15_3) t297 a4 t299 _ ?side1 ?side2 A15.out).mono ?_); (case side1 => repeat (first | exact (Kd.C_below HR0.out HB.out) | (with_reducible refine Kd.C_alloc ?_ _) | (with_reducible refine Kd.C_drewN ?_ _) | (with_reducible refine Kd.C_drew ?_))); (case side2 => exact HC0.out); rintro e w' ⟨rfl, ⟨nd, rfl⟩⟩; refine ⟨_, rfl, ?_⟩))
                      go_roundg k3
                      case measure => have := HK1.out; have := HJ5.out; have := HK3.out; omega
                      case rel => exact ⟨(!t299), (wrap64 (x15_3 + 1)), (by first | rfl | (simp; done) | (simp [*]; done)), (by first | rfl | (simp; done) | (simp [*]; done)), H', ⟨by have := HK1.out; have := HJ5.out; have := HK3.out; omega⟩, ⟨by (with_reducible repeat (first | apply Kd.R_alloc | apply Kd.R_drewN | apply Kd.R_drew)); exact HO_11.out⟩, ⟨by repeat (first | (with_reducible first | exact HB.out | apply below_alloc | apply pw_below_drewN | apply below_drew1) | exact HB.out)⟩⟩
                    · rw [if_neg c14] at H
                      exact absurd H (by simp)
                  · replace c13 := Bool.eq_false_iff.mpr c13
                    subst c13
                    have H1 : (reefref12_Place.l0 k3 l0 l1 a2 a3 a4 x11_1 (wrap64 (x12_1 + 1))) = some r := by rw [if_neg (show ¬ (false = true) by decide)] at H; exact H
                    clear H
                    have H := H1
                    clear H1
                    have H' := Aside0.mk H
                    clear H
                    obtain ⟨Ao17, co17, eo17⟩ := Kd.R_slice HO_11.out
                    subst eo17
                    go_wp2
                    go_roundg k3
                    case measure => have := HK1.out; have := HJ5.out; have := HK3.out; omega
                    case rel => exact ⟨(x11_1), (wrap64 (x12_1 + 1)), (by first | rfl | (simp; done) | (simp [*]; done)), H', ⟨by have := HK1.out; have := HJ5.out; have := HK3.out; omega⟩, ⟨by (with_reducible repeat (first | apply Kd.R_alloc | apply Kd.R_drewN | apply Kd.R_drew)); exact HO_11.out⟩, ⟨by repeat (first | (with_reducible first | exact HB.out | apply below_alloc | apply pw_below_drewN | apply below_drew1) | exact HB.out)⟩⟩
                · rw [if_neg c12] at H
                  have c12b0 : decide (x15_3 < (x11_1.length : Int)) = false := decide_eq_false c12
                  clear c12
                  by_cases c18 : x14_3 = true
                  · subst c18
                    have H1 : (if x11_1.length < 17592186044416 then (reefref12_Place.l0 k3 l0 l1 a2 a3 a4 (x11_1 ++ [t297]) (wrap64 (x12_1 + 1))) else (none)) = some r := by rw [if_pos rfl] at H; exact H
                    clear H
                    have H := H1
                    clear H1
                    by_cases c19 : x11_1.length < 17592186044416
                    · rw [if_pos c19] at H
                      have LMc19 := Aside0.mk c19
                      clear c19
                      obtain ⟨y300, hy300⟩ : ∃ y_ : List Int, y_ = (x11_1 ++ [t297]) := ⟨_, rfl⟩
                      replace H : (reefref12_Place.l0 k3 l0 l1 a2 a3 a4 y300 (wrap64 (x12_1 + 1))) = some r := by first | (rw [hy300]; with_reducible exact H) | (have H2_ := (Option.bind_some _ _).symm.trans H; rw [hy300]; with_reducible exact H2_) | (have H2_ := (Option.bind_some _ _).symm.trans H; with_reducible exact H2_) | with_reducible exact H | (rw [hy300]; exact H) | exact H
                      have Ny300 := Aside0.mk hy300
                      clear hy300
                      have H' := Aside0.mk H
                      clear H
                      obtain ⟨Ao20, co20, eo20⟩ := Kd.R_slice HO_11.out
                      subst eo20
                      go_wp2_with (first | ((with_reducible refine gate_builtin (b := .append) (xs := #[.tmp 52, .tmp 54]) rfl ?_); (try (refine gate_guard (by rfl) ?_; dsimp only)); at_builtin; refine Kd.R_append (Kd.int .i64) (w0 := w) w.heap.size rfl (.tmp 52) (.tmp 54) 22 3 (.int .i64 0) 8 rfl Try.underlying22 info3 rfl (by decide) (by omega) (.slice Ao20 x11_1.length co20) x11_1 t297 [.int .i64 t297] (fun _ => True) (fun _ => False) rfl rfl ?aP (fun _ hk => hk.elim) ?aF ?aO ?aB ?aS ?aL ?_; (case aP => exact rfl); (case aB => exact (by repeat (first | (with_reducible first | exact HB.out | apply below_alloc | apply pw_below_drewN | apply below_drew1) | exact HB.out))); (case aF => exact (fun _ _ => trivial)); (case aO => exact (by (with_reducible repeat (first | apply Kd.R_alloc | apply Kd.R_drewN | apply Kd.R_drew)); exact HO_11.out)); (case aS => exact (below_size (by repeat (first | (with_reducible first | exact HB.out | apply below_alloc | apply pw_below_drewN | apply below_drew1) | exact HB.out)))); (case aL => have := LMc19.out; omega); intro v301 w21 ho hb hg hat; rw [← Ny300.out] at ho; have n0_ := Aside0.mk (hb); have n1_ := Aside0.mk (ho); clear HB; clear HO_11; have HB := n0_; have HO302 := n1_; clear n0_ n1_; clear ho hb hg hat))
                      go_roundg k3
                      case measure => have := HK1.out; have := HJ5.out; have := HK3.out; omega
                      case rel => exact ⟨(y300), (wrap64 (x12_1 + 1)), (by first | rfl | (simp; done) | (simp [*]; done)), H', ⟨by have := HK1.out; have := HJ5.out; have := HK3.out; omega⟩, ⟨by (with_reducible repeat (first | apply Kd.R_alloc | apply Kd.R_drewN | apply Kd.R_drew)); exact HO302.out⟩, ⟨by repeat (first | (with_reducible first | exact HB.out | apply below_alloc | apply pw_below_drewN | apply below_drew1) | exact HB.out)⟩⟩
                    · rw [if_neg c19] at H
                      exact absurd H (by simp)
                  · replace c18 := Bool.eq_false_iff.mpr c18
                    subst c18
                    have H1 : (reefref12_Place.l0 k3 l0 l1 a2 a3 a4 x11_1 (wrap64 (x12_1 + 1))) = some r := by rw [if_neg (show ¬ (false = true) by decide)] at H; exact H
                    clear H
                    have H := H1
                    clear H1
                    have H' := Aside0.mk H
                    clear H
                    obtain ⟨Ao22, co22, eo22⟩ := Kd.R_slice HO_11.out
                    subst eo22
                    go_wp2
                    go_roundg k3
                    case measure => have := HK1.out; have := HJ5.out; have := HK3.out; omega
                    case rel => exact ⟨(x11_1), (wrap64 (x12_1 + 1)), (by first | rfl | (simp; done) | (simp [*]; done)), H', ⟨by have := HK1.out; have := HJ5.out; have := HK3.out; omega⟩, ⟨by (with_reducible repeat (first | apply Kd.R_alloc | apply Kd.R_drewN | apply Kd.R_drew)); exact HO_11.out⟩, ⟨by repeat (first | (with_reducible first | exact HB.out | apply below_alloc | apply pw_below_drewN | apply below_drew1) | exact HB.out)⟩⟩
          · replace c9 := Bool.eq_false_iff.mpr c9
            subst c9
            have H1 : (some x11_1) = some r := by rw [if_neg (show ¬ (false = true) by decide)] at H; exact H
            clear H
            have H := H1
            clear H1
            obtain rfl := Option.some.inj H
            go_wp2
            go_ret
            exact ⟨_, by first | rfl | (simp [errW_none, errW_some] <;> rfl) | (simp [*, errW_none, errW_some] <;> rfl), by (with_reducible repeat (first | apply Kd.R_alloc | apply Kd.R_drewN | apply Kd.R_drew)); exact HO_11.out, by repeat (first | (with_reducible first | exact HB.out | apply below_alloc | apply pw_below_drewN | apply below_drew1) | exact HB.out)⟩
end Go.Proofs.Ytbaldkcnipmdjaa.P
namespace Go.Proofs.Ytbaldkcnipmdjaa.P
open Go.RowKit Go.Proofs.YtbaldkcnipmdjaaW.PrintWords Go.Proofs.YtbaldkcnipmdjaaW.PrintLast Go.Proofs.YtbaldkcnipmdjaaW.PrintMore Go.Proofs.YtbaldkcnipmdjaaW.HB
set_option linter.unusedVariables false
set_option linter.unusedSimpArgs false
def tryR (its : List S31) (nd : Int → List S31) (x r : Int) : Int := if (chooseS its x r).2 = true then (tryN its nd x r).getD (-1) else -1
theorem rtry_l0 (hs ws : List Int) (x r : Int) (its : List S31) (q : Nat) (hq : q < its.length) (hr : 0 ≤ r ∧ r < 1000) (hl : hs.length ≤ 1000) : ∀ (d k i : Nat), hs.length = i + d → d + 1200 ≤ k →
    reefref12_try.l0 k hs ws x r its q (nodesN hs ws (rd_T31 its (q : Int)).f0 i) i = some (if (chooseS (nodesS hs ws (rd_T31 its (q : Int)).f0) x (r + 64)).2 = true then (rd_T31 (nodesS hs ws (rd_T31 its (q : Int)).f0) (chooseS (nodesS hs ws (rd_T31 its (q : Int)).f0) x (r + 64)).1).f0 else -1) := by
  generalize hh : (rd_T31 its (q : Int)).f0 = h
  intro d
  induction d with
  | zero =>
    intro k i hi hk
    obtain ⟨k, rfl⟩ : ∃ k', k = k' + 1 := ⟨k - 1, by omega⟩
    have hw : wrap64 (r + 64) = r + 64 := wrap64_small _ (by omega) (by omega)
    have hn : (nodesS hs ws h).length ≤ hs.length := nodesN_len hs ws h hs.length
    simp only [reefref12_try.l0]
    rw [if_neg (by omega), hw, show nodesN hs ws h i = nodesS hs ws h from by unfold nodesS; rw [show i = hs.length from by omega], rchoose_eq _ x _ (by omega) k (by omega), Option.bind_some]
    split
    · rename_i hok
      have := choose_lt _ x _ hok
      rw [if_pos this.1, if_pos this.2]
    · rfl
  | succ d ih =>
    intro k i hi hk
    obtain ⟨k, rfl⟩ : ∃ k', k = k' + 1 := ⟨k - 1, by omega⟩
    have hw : wrap64 ((i : Int) + 1) = ((i + 1 : Nat) : Int) := by unfold wrap64; omega
    have hn := nodesN_len hs ws h i
    have hrec := ih k (i + 1) (by omega) (by omega)
    clear ih
    have hdef : nodesN hs ws h (i + 1) = if rd hs i = h then nodesN hs ws h i ++ [⟨i, weightS ws i⟩] else nodesN hs ws h i := rfl
    simp only [reefref12_try.l0]
    rw [if_pos (by omega), if_pos (by omega), if_pos (by omega), if_pos (by omega), hw, hh]
    by_cases he : rd hs (i : Int) = h
    · rw [if_pos he] at hdef
      rw [if_pos he, rweight_eq ws i (by omega), Option.bind_some, if_pos (by omega), ← hdef, hrec]
    · rw [if_neg he] at hdef
      rw [if_neg he, ← hdef, hrec]
theorem rtry_eq (hs ws : List Int) (x r : Int) (hr : 0 ≤ r ∧ r < 1000) (hl : hs.length ≤ 1000) (K : Nat) (hK : 1010001 ≤ K) : reefref12_try.f K hs ws x r = some (tryR (itemsS hs ws) (nodesS hs ws) x r) := by
  have hi : (itemsS hs ws).length ≤ hs.length := by unfold itemsS; rw [List.length_map]; exact hostsL_len hs
  unfold reefref12_try.f tryR
  rw [ritems_eq hs ws hl K hK, Option.bind_some, rchoose_eq _ x r (by omega) K (by omega), Option.bind_some]
  split
  · rename_i hok
    have hlt := choose_lt _ x _ hok
    unfold tryN
    generalize (chooseS (itemsS hs ws) x r).1 = q at *
    obtain ⟨q, rfl⟩ : ∃ n : Nat, q = n := ⟨q.toNat, by omega⟩
    have h := rtry_l0 hs ws x r (itemsS hs ws) q (by omega) hr hl hs.length K 0 (by omega) (by omega)
    refine h.trans ?_
    congr 1
    split <;> rfl
  · rfl
theorem clash_eq (hs : List Int) (a b kind : Int) (ha : 0 ≤ a ∧ a < hs.length) (hb : 0 ≤ b ∧ b < hs.length) : reefref12_clash.f hs a b kind = some (decide (domS hs kind a = domS hs kind b)) := by
  unfold reefref12_clash.f domS
  by_cases h1 : a = b
  · subst h1; rw [if_pos rfl]; simp
  · rw [if_neg h1]
    by_cases h2 : kind = 2
    · rw [if_pos h2, if_pos ha.1, if_pos ha.2, if_pos hb.1, if_pos hb.2, if_pos h2, if_pos h2]
      rfl
    · rw [if_neg h2, if_neg h2, if_neg h2]
      simp [h1]
def inR (hs l : List Int) : Prop := ∀ v ∈ l, 0 ≤ v ∧ v < hs.length
theorem place_sub (hs : List Int) (kind size : Int) : ∀ (l : List Int) (v : Int), v ∈ placeL hs kind size l → v ∈ l := by
  suffices h : ∀ (l out : List Int) (v : Int), v ∈ l.foldl (placeStep hs kind size) out → v ∈ out ∨ v ∈ l by
    intro l v hv
    rcases h l [] v hv with h | h
    · cases h
    · exact h
  intro l
  induction l with
  | nil => intro out v h; exact Or.inl h
  | cons u l ih =>
    intro out v h
    rw [List.foldl_cons] at h
    rcases ih _ v h with h | h
    · unfold placeStep at h
      split at h
      · exact Or.inl h
      · split at h
        · exact Or.inl h
        · rcases List.mem_append.1 h with h | h
          · exact Or.inl h
          · simp at h; subst h; exact Or.inr List.mem_cons_self
    · exact Or.inr (List.mem_cons_of_mem _ h)
theorem place_max (hs : List Int) (kind size : Int) (h1 : 1 ≤ size) : ∀ (l : List Int), ((placeL hs kind size l).length : Int) ≤ size := by
  suffices h : ∀ (l out : List Int), (out.length : Int) ≤ size → ((l.foldl (placeStep hs kind size) out).length : Int) ≤ size by
    intro l; exact h l [] (by simp; omega)
  intro l
  induction l with
  | nil => intro out h; exact h
  | cons u l ih =>
    intro out h
    rw [List.foldl_cons]
    apply ih
    unfold placeStep
    split
    · exact h
    · split
      · exact h
      · simp; omega
theorem rplace_l1 (hs ws : List Int) (x size kind : Int) (out : List Int) (r : Nat) (v : Int) (hr : r < 64) (ho : out.length ≤ 64) (hio : inR hs out) (R : Option (List Int)) (k0 : Nat) :
    ∀ (d k i : Nat) (ok : Bool), (ok = true → 0 ≤ v ∧ v < hs.length) → out.length = i + d → k0 + d + 1 ≤ k →
      ((ok = true ∧ domS hs kind v ∉ (out.drop i).map (domS hs kind)) → ∀ K, k0 ≤ K → reefref12_Place.l0 K hs ws x size kind (out ++ [v]) ((r + 1 : Nat) : Int) = R) →
      (¬ (ok = true ∧ domS hs kind v ∉ (out.drop i).map (domS hs kind)) → ∀ K, k0 ≤ K → reefref12_Place.l0 K hs ws x size kind out ((r + 1 : Nat) : Int) = R) →
      reefref12_Place.l1 k hs ws x size kind out r v ok i = R := by
  have hwr : wrap64 ((r : Int) + 1) = ((r + 1 : Nat) : Int) := by unfold wrap64; omega
  intro d
  induction d with
  | zero =>
    intro k i ok hv hi hk hyes hno
    obtain ⟨k, rfl⟩ : ∃ k', k = k' + 1 := ⟨k - 1, by omega⟩
    have hd : out.drop i = [] := List.drop_eq_nil_of_le (by omega)
    simp only [reefref12_Place.l1]
    rw [if_neg (by omega), hwr]
    by_cases hok : ok = true
    · rw [if_pos hok, if_pos (by omega)]
      exact hyes ⟨hok, by rw [hd]; simp⟩ k (by omega)
    · rw [if_neg hok]
      exact hno (fun h => hok h.1) k (by omega)
  | succ d ih =>
    intro k i ok hv hi hk hyes hno
    obtain ⟨k, rfl⟩ : ∃ k', k = k' + 1 := ⟨k - 1, by omega⟩
    have hlt : i < out.length := by omega
    have hw : wrap64 ((i : Int) + 1) = ((i + 1 : Nat) : Int) := by unfold wrap64; omega
    have hd : out.drop i = out[i] :: out.drop (i + 1) := List.drop_eq_getElem_cons hlt
    simp only [reefref12_Place.l1]
    rw [if_pos (by omega), hwr]
    by_cases hok : ok = true
    · rw [if_pos hok, if_pos (by omega), rd_I out i hlt, clash_eq hs _ _ kind (hio _ (List.getElem_mem hlt)) (hv hok), Option.bind_some, hw]
      have hiff : ((!decide (domS hs kind out[i] = domS hs kind v)) = true ∧ domS hs kind v ∉ (out.drop (i + 1)).map (domS hs kind)) ↔ (ok = true ∧ domS hs kind v ∉ (out.drop i).map (domS hs kind)) := by
        rw [hd, List.map_cons, Bool.not_eq_true', decide_eq_false_iff_not, List.mem_cons]
        constructor
        · rintro ⟨h1, h2⟩
          exact ⟨hok, fun hm => hm.elim (fun h => h1 h.symm) h2⟩
        · rintro ⟨_, h2⟩
          exact ⟨fun h => h2 (Or.inl h.symm), fun h => h2 (Or.inr h)⟩
      exact ih k (i + 1) _ (fun _ => hv hok) (by omega) (by omega) (fun h => hyes (hiff.1 h)) (fun h => hno (fun h' => h (hiff.2 h')))
    · rw [if_neg hok]
      exact hno (fun h => hok h.1) k (by omega)
theorem tryN_range (hs ws : List Int) (x r v : Int) (h : tryN (itemsS hs ws) (nodesS hs ws) x r = some v) : 0 ≤ v ∧ v < hs.length := by
  unfold tryN at h
  split at h
  · rename_i hok
    have hlt := choose_lt _ x _ hok
    generalize (chooseS (nodesS hs ws _) x (r + 64)).1 = k at *
    obtain ⟨k, rfl⟩ : ∃ n : Nat, k = n := ⟨k.toNat, by omega⟩
    rw [rd_IT _ k (by omega)] at h
    obtain rfl := Option.some.inj h
    have hk : k < (nodesS hs ws (rd_T31 (itemsS hs ws) (chooseS (itemsS hs ws) x r).1).f0).length := by omega
    have := nodesN_mem hs ws _ hs.length _ (List.getElem_mem hk)
    exact ⟨this.1, this.2.1⟩
  · cases h
def trR (its : List S31) (nd : Int → List S31) (x : Int) (n : Nat) : List Int := if (chooseS its x 0).2 = true then trL its nd x n else []
theorem trR_step (hs ws : List Int) (x : Int) (n : Nat) : (tryR (itemsS hs ws) (nodesS hs ws) x n = -1 ∧ trR (itemsS hs ws) (nodesS hs ws) x (n + 1) = trR (itemsS hs ws) (nodesS hs ws) x n) ∨
    (0 ≤ tryR (itemsS hs ws) (nodesS hs ws) x n ∧ tryR (itemsS hs ws) (nodesS hs ws) x n < hs.length ∧ trR (itemsS hs ws) (nodesS hs ws) x (n + 1) = trR (itemsS hs ws) (nodesS hs ws) x n ++ [tryR (itemsS hs ws) (nodesS hs ws) x n]) := by
  unfold trR tryR
  rw [choose_any (itemsS hs ws) x n x 0]
  by_cases h : (chooseS (itemsS hs ws) x 0).2 = true
  · rw [if_pos h, if_pos h, if_pos h]
    have hd : trL (itemsS hs ws) (nodesS hs ws) x (n + 1) = (match tryN (itemsS hs ws) (nodesS hs ws) x (n : Nat) with | some v => trL (itemsS hs ws) (nodesS hs ws) x n ++ [v] | none => trL (itemsS hs ws) (nodesS hs ws) x n) := rfl
    rw [hd]
    cases ht : tryN (itemsS hs ws) (nodesS hs ws) x (n : Nat) with
    | none => exact Or.inl ⟨rfl, rfl⟩
    | some v =>
      have := tryN_range hs ws x n v ht
      exact Or.inr ⟨this.1, this.2, rfl⟩
  · rw [if_neg h, if_neg h, if_neg h]
    exact Or.inl ⟨rfl, rfl⟩
theorem trR_app (hs ws : List Int) (x : Int) (n : Nat) : ∀ d, ∃ t, trR (itemsS hs ws) (nodesS hs ws) x (n + d) = trR (itemsS hs ws) (nodesS hs ws) x n ++ t
  | 0 => ⟨[], by simp⟩
  | d + 1 => by
    obtain ⟨t, ht⟩ := trR_app hs ws x n d
    rcases trR_step hs ws x (n + d) with ⟨_, h⟩ | ⟨_, _, h⟩
    · exact ⟨t, by rw [show n + (d + 1) = n + d + 1 from rfl, h, ht]⟩
    · exact ⟨t ++ [_], by rw [show n + (d + 1) = n + d + 1 from rfl, h, ht, List.append_assoc]⟩
theorem trR_range (hs ws : List Int) (x : Int) : ∀ n, inR hs (trR (itemsS hs ws) (nodesS hs ws) x n) ∧ (trR (itemsS hs ws) (nodesS hs ws) x n).length ≤ n
  | 0 => by
    have : trR (itemsS hs ws) (nodesS hs ws) x 0 = [] := by unfold trR; split <;> rfl
    rw [this]
    exact ⟨fun v h => (by cases h), Nat.le_refl _⟩
  | n + 1 => by
    have ih := trR_range hs ws x n
    rcases trR_step hs ws x n with ⟨_, h⟩ | ⟨h1, h2, h⟩
    · rw [h]; exact ⟨ih.1, by omega⟩
    · rw [h]
      refine ⟨fun v hv => ?_, by simp; omega⟩
      rcases List.mem_append.1 hv with hv | hv
      · exact ih.1 v hv
      · simp at hv; subst hv; exact ⟨h1, h2⟩
theorem rplace_l0 (hs ws : List Int) (x size kind : Int) (hl : hs.length ≤ 1000) (hs1 : 1 ≤ size) : ∀ (d k r : Nat), r + d = 64 → 1020000 + d * 70 ≤ k →
    reefref12_Place.l0 k hs ws x size kind (placeL hs kind size (trR (itemsS hs ws) (nodesS hs ws) x r)) r = some (plS hs ws x size kind) := by
  have hpl : plS hs ws x size kind = placeL hs kind size (trR (itemsS hs ws) (nodesS hs ws) x 64) := by
    unfold plS placeS
    rw [if_neg (by omega)]
    rfl
  intro d
  induction d with
  | zero =>
    intro k r hr hk
    obtain ⟨k, rfl⟩ : ∃ k', k = k' + 2 := ⟨k - 2, by omega⟩
    simp only [reefref12_Place.l0]
    rw [if_neg (by omega)]
    simp only [reefref12_Place.j1]
    rw [if_neg (by decide), hpl, show r = 64 from by omega]
  | succ d ih =>
    intro k r hr hk
    obtain ⟨k, rfl⟩ : ∃ k', k = k' + 2 := ⟨k - 2, by omega⟩
    have hout := trR_range hs ws x r
    have hmax := place_max hs kind size hs1 (trR (itemsS hs ws) (nodesS hs ws) x r)
    have hlen := place_len hs kind size (trR (itemsS hs ws) (nodesS hs ws) x r)
    have hio : inR hs (placeL hs kind size (trR (itemsS hs ws) (nodesS hs ws) x r)) := fun v hv => hout.1 v (place_sub hs kind size _ v hv)
    have hstep := trR_step hs ws x r
    have happ := trR_app hs ws x r (d + 1)
    have hsn := place_snoc hs kind size (trR (itemsS hs ws) (nodesS hs ws) x r)
    have hdone := place_done hs kind size
    simp only [reefref12_Place.l0]
    rw [if_pos (by omega)]
    simp only [reefref12_Place.j1]
    by_cases hc : ((placeL hs kind size (trR (itemsS hs ws) (nodesS hs ws) x r)).length : Int) < size
    · rw [if_pos (decide_eq_true hc), rtry_eq hs ws x r (by omega) hl k (by omega), Option.bind_some]
      generalize hv : tryR (itemsS hs ws) (nodesS hs ws) x r = v at *
      refine rplace_l1 hs ws x size kind _ r v (by omega) (by omega) hio _ (1020000 + d * 70) (placeL hs kind size (trR (itemsS hs ws) (nodesS hs ws) x r)).length k 0 _ ?_ (by omega) (by omega) ?_ ?_
      · intro h
        have h : v ≥ 0 := of_decide_eq_true h
        rcases hstep with ⟨h1, _⟩ | ⟨h1, h2, _⟩
        · omega
        · exact ⟨h1, h2⟩
      · rintro ⟨h, hnm⟩ K hK
        have h : v ≥ 0 := of_decide_eq_true h
        rcases hstep with ⟨h1, _⟩ | ⟨h1, h2, h3⟩
        · omega
        · have hr2 := ih K (r + 1) (by omega) hK
          rw [h3, hsn] at hr2
          unfold placeStep at hr2
          rw [if_neg (by omega), if_neg (by rw [List.drop_zero] at hnm; exact hnm)] at hr2
          exact hr2
      · intro hno K hK
        have hr2 := ih K (r + 1) (by omega) hK
        rcases hstep with ⟨h1, h3⟩ | ⟨h1, h2, h3⟩
        · rw [h3] at hr2; exact hr2
        · rw [h3, hsn] at hr2
          unfold placeStep at hr2
          rw [if_neg (by omega), if_pos (Decidable.byContradiction fun hnm => hno ⟨decide_eq_true h1, by rw [List.drop_zero]; exact hnm⟩)] at hr2
          exact hr2
    · rw [if_neg (by simp only [decide_eq_true_eq]; exact hc), hpl]
      obtain ⟨t, ht⟩ := happ
      rw [show r + (d + 1) = 64 from hr] at ht
      rw [ht]
      congr 1
      have h2 := hdone t (placeL hs kind size (trR (itemsS hs ws) (nodesS hs ws) x r)) (by omega)
      unfold placeL at h2 ⊢
      rw [List.foldl_append, h2]
theorem rplace_eq (hs ws : List Int) (x size kind : Int) (hl : hs.length ≤ 1000) (K : Nat) (hK : 1030000 ≤ K) : reefref12_Place.f K hs ws x size kind = some (plS hs ws x size kind) := by
  unfold reefref12_Place.f
  by_cases hs1 : 1 ≤ size
  · have h := rplace_l0 hs ws x size kind hl hs1 64 K 0 rfl (by omega)
    have h0 : trR (itemsS hs ws) (nodesS hs ws) x 0 = [] := by unfold trR; split <;> rfl
    rw [h0] at h
    exact h
  · obtain ⟨k, rfl⟩ : ∃ k', K = k' + 2 := ⟨K - 2, by omega⟩
    simp only [reefref12_Place.l0]
    rw [if_pos (by decide)]
    simp only [reefref12_Place.j1]
    rw [if_neg (by simp; omega)]
    unfold plS placeS
    rw [if_pos (by omega)]
end Go.Proofs.Ytbaldkcnipmdjaa.P
namespace Go.Proofs.Ytbaldkcnipmdjaa.P
open Go.RowKit Go.Proofs.YtbaldkcnipmdjaaW.PrintWords Go.Proofs.YtbaldkcnipmdjaaW.PrintLast Go.Proofs.YtbaldkcnipmdjaaW.PrintMore
attribute [local go_sem] max2_int min2_int max_two min_two max_three min_three max_four min_four
set_option linter.unusedVariables false
set_option linter.unusedSimpArgs false
def rule_Most.l0 : Nat → List Int → List Int → Int → Int → List Int → Int → Int → Option (Int)
  | 0, _, _, _, _, _, _, _ => none
  | k + 1, x0, x1, x2, x3, x9, x12, x13 => if x13 < x12 then ((rule_weight.f x1 x13).bind fun t134 => (if t134 > 0 then ((rule_domain.f x0 x13 x3).bind fun t135 => (if x9.length < 17592186044416 then (rule_Most.l0 k x0 x1 x2 x3 (x9 ++ [t135]) x12 (wrap64 (x13 + 1))) else (none))) else (rule_Most.l0 k x0 x1 x2 x3 x9 x12 (wrap64 (x13 + 1))))) else ((rule_Hosts.f x9).bind fun t131 => (some (mx (mn (t131.length : Int) x2) 0)))
def rule_Most.f (k : Nat) (l0 : List Int) (l1 : List Int) (a2 : Int) (a3 : Int) : Option (Int) := rule_Most.l0 k l0 l1 a2 a3 ([] : List Int) (l0.length : Int) 0
set_option maxHeartbeats 8000000 in
set_option maxRecDepth 100000 in
theorem rule_Most.calls (k : Nat) (A0 : Option Addr) (c0 : Nat) (l0 : List Int) (A1 : Option Addr) (c1 : Nat) (l1 : List Int) (a2 : Int) (a3 : Int) (r : Int) (w : World) (hr0 : Kd.C (Kd.int .i64) w A0 l0.length l0) (hc0 : l0.length ≤ c0) (hr1 : Kd.C (Kd.int .i64) w A1 l1.length l1) (hc1 : l1.length ≤ c1) (h : rule_Most.f k l0 l1 a2 a3 = some r) :
    Calls Try.prog 20 #[.slice A0 l0.length c0, .slice A1 l1.length c1, .int .i64 a2, .int .i64 a3] w fun e w' => e = .returned (.int .i64 r) ∧ Below w.heap.size w w' := by
  have HR0 := Aside0.mk hr0
  have HC0 := Aside0.mk hc0
  clear hr0 hc0
  have HR1 := Aside0.mk hr1
  have HC1 := Aside0.mk hc1
  clear hr1 hc1
  have HB := Aside0.mk (Below.refl w.heap.size w)
  have H : (rule_Most.l0 k l0 l1 a2 a3 ([] : List Int) (l0.length : Int) 0) = some r := h
  clear h
  have H' := Aside0.mk H
  clear H
  go_enter Try.func20, Try.ntmps20
  go_wp2
  go_loopg [9, 13] k (fun kq v9 v13 w' => ∃ (x9_1 : List Int) (x13_1 : Int), v13 = .int .i64 x13_1 ∧ Aside0 (rule_Most.l0 kq l0 l1 a2 a3 x9_1 (l0.length : Int) x13_1 = some r) ∧ Aside0 (kq ≤ k) ∧ Aside0 (Kd.R (Kd.int .i64) 3 w' w.heap.size (fun _ => True) v9 x9_1) ∧ Aside0 (Below w.heap.size w w'))
  case atStart => exact ⟨(([] : List Int)), (0), (by first | rfl | (simp; done) | (simp [*]; done)), H', ⟨Nat.le_refl _⟩, ⟨by first | exact Kd.R_nil _ _ _ _ _ | exact Kd.N_nil _ _ _ _ _ | exact Kd.V_nil _ _ _ _ _ | exact Kd.Q_nil _ _ _ _ _ | exact Kd.S_nil _ _ _ _ _⟩, ⟨by repeat (first | (with_reducible first | exact HB.out | apply below_alloc | apply pw_below_drewN | apply below_drew1) | exact HB.out)⟩⟩
  case round =>
    clear H'
    try clear c1
    try clear c2
    try clear p2
    obtain ⟨x9_1, x13_1, rfl, HA, HK1, HO_9, HB⟩ := hrel
    cases gk with
    | zero => exact absurd HA.out (by simp [rule_Most.l0])
    | succ k1 =>
      have H := HA.out
      clear HA
      simp only [rule_Most.l0] at H
      by_cases c5 : x13_1 < (l0.length : Int)
      · rw [if_pos c5] at H
        have c5b0 : decide (x13_1 < (l0.length : Int)) = true := decide_eq_true c5
        clear c5
        replace H := Option.bind_eq_some_iff.mp H
        obtain ⟨t134, A60, H⟩ := H
        replace H : (if t134 > 0 then ((rule_domain.f l0 x13_1 a3).bind fun t135 => (if x9_1.length < 17592186044416 then (rule_Most.l0 k1 l0 l1 a2 a3 (x9_1 ++ [t135]) (l0.length : Int) (wrap64 (x13_1 + 1))) else (none))) else (rule_Most.l0 k1 l0 l1 a2 a3 x9_1 (l0.length : Int) (wrap64 (x13_1 + 1)))) = some r := H
        have A6 := Aside0.mk A60
        clear A60
        by_cases c7 : t134 > 0
        · rw [if_pos c7] at H
          have c7b0 : decide (0 < t134) = true := decide_eq_true c7
          clear c7
          replace H := Option.bind_eq_some_iff.mp H
          obtain ⟨t135, A80, H⟩ := H
          replace H : (if x9_1.length < 17592186044416 then (rule_Most.l0 k1 l0 l1 a2 a3 (x9_1 ++ [t135]) (l0.length : Int) (wrap64 (x13_1 + 1))) else (none)) = some r := H
          have A8 := Aside0.mk A80
          clear A80
          by_cases c9 : x9_1.length < 17592186044416
          · rw [if_pos c9] at H
            have LMc9 := Aside0.mk c9
            clear c9
            obtain ⟨y136, hy136⟩ : ∃ y_ : List Int, y_ = (x9_1 ++ [t135]) := ⟨_, rfl⟩
            replace H : (rule_Most.l0 k1 l0 l1 a2 a3 y136 (l0.length : Int) (wrap64 (x13_1 + 1))) = some r := by first | (rw [hy136]; with_reducible exact H) | (have H2_ := (Option.bind_some _ _).symm.trans H; rw [hy136]; with_reducible exact H2_) | (have H2_ := (Option.bind_some _ _).symm.trans H; with_reducible exact H2_) | with_reducible exact H | (rw [hy136]; exact H) | exact H
            have Ny136 := Aside0.mk hy136
            clear hy136
            have H' := Aside0.mk H
            clear H
            go_wp2_with (first | ((with_reducible refine gate_callee (f := 36) rfl ?_); refine goesL_ (some 18) rfl rfl Try.func36 (by kernel_rfl) rfl #[.slice A1 l1.length c1, .int .i64 x13_1] rfl (by (try simp only [List.map_toArray, List.map_cons, List.map_nil]); first | done | rfl | (simp only [List.length_drop, List.length_take]; rfl)) ?_; (with_reducible refine (rule_weight.calls _ _ l1 x13_1 t134 _ ?side1 ?side2 A6.out).mono ?_); (case side1 => repeat (first | exact (Kd.C_below HR1.out HB.out) | (with_reducible refine Kd.C_alloc ?_ _) | (with_reducible refine Kd.C_drewN ?_ _) | (with_reducible refine Kd.C_drew ?_))); (case side2 => exact HC1.out); rintro e w10 ⟨rfl, hb⟩; refine ⟨_, rfl, ?_⟩; have n0_ := Aside0.mk (Kd.R_below (by (with_reducible repeat (first | apply Kd.R_alloc | apply Kd.R_drewN | apply Kd.R_drew)); exact HO_9.out) hb); have n1_ := Aside0.mk (below_step (by repeat (first | (with_reducible first | exact HB.out | apply below_alloc | apply pw_below_drewN | apply below_drew1) | exact HB.out)) hb); clear HO_9; clear HB; have HO_9 := n0_; have HB := n1_; clear n0_ n1_; (try clear hb); (try clear hb2); (try clear hk); (try clear hi)) | ((with_reducible refine gate_callee (f := 33) rfl ?_); refine goesL_ (some 24) rfl rfl Try.func33 (by kernel_rfl) rfl #[.slice A0 l0.length c0, .int .i64 x13_1, .int .i64 a3] rfl (by (try simp only [List.map_toArray, List.map_cons, List.map_nil]); first | done | rfl | (simp only [List.length_drop, List.length_take]; rfl)) ?_; (with_reducible refine (rule_domain.calls _ _ l0 x13_1 a3 t135 _ ?side1 ?side2 A8.out).mono ?_); (case side1 => repeat (first | exact (Kd.C_below HR0.out HB.out) | (with_reducible refine Kd.C_alloc ?_ _) | (with_reducible refine Kd.C_drewN ?_ _) | (with_reducible refine Kd.C_drew ?_))); (case side2 => exact HC0.out); rintro e w' ⟨rfl, ⟨nd, rfl⟩⟩; refine ⟨_, rfl, ?_⟩) | ((with_reducible refine gate_builtin (b := .append) (xs := #[.tmp 20, .tmp 25]) rfl ?_); at_builtin; refine Kd.R_append (Kd.int .i64) (w0 := w) w.heap.size rfl (.tmp 20) (.tmp 25) 22 3 (.int .i64 0) 8 rfl Try.underlying22 info3 rfl (by decide) (by omega) u9 x9_1 t135 [.int .i64 t135] (fun _ => True) (fun _ => False) rfl rfl ?aP (fun _ hk => hk.elim) ?aF ?aO ?aB ?aS ?aL ?_; (case aP => exact rfl); (case aB => exact (by repeat (first | (with_reducible first | exact HB.out | apply below_alloc | apply pw_below_drewN | apply below_drew1) | exact HB.out))); (case aF => exact (fun _ _ => trivial)); (case aO => exact (by (with_reducible repeat (first | apply Kd.R_alloc | apply Kd.R_drewN | apply Kd.R_drew)); exact HO_9.out)); (case aS => exact (below_size (by repeat (first | (with_reducible first | exact HB.out | apply below_alloc | apply pw_below_drewN | apply below_drew1) | exact HB.out)))); (case aL => have := LMc9.out; omega); intro v137 w11 ho hb hg hat; rw [← Ny136.out] at ho; have n0_ := Aside0.mk (hb); have n1_ := Aside0.mk (ho); clear HB; clear HO_9; have HB := n0_; have HO138 := n1_; clear n0_ n1_; clear ho hb hg hat))
            go_roundg k1
            case measure => have := HK1.out; omega
            case rel => exact ⟨(y136), (wrap64 (x13_1 + 1)), (by first | rfl | (simp; done) | (simp [*]; done)), H', ⟨by have := HK1.out; omega⟩, ⟨by (with_reducible repeat (first | apply Kd.R_alloc | apply Kd.R_drewN | apply Kd.R_drew)); exact HO138.out⟩, ⟨by repeat (first | (with_reducible first | exact HB.out | apply below_alloc | apply pw_below_drewN | apply below_drew1) | exact HB.out)⟩⟩
          · rw [if_neg c9] at H
            exact absurd H (by simp)
        · rw [if_neg c7] at H
          have c7b0 : decide (0 < t134) = false := decide_eq_false c7
          clear c7
          have H' := Aside0.mk H
          clear H
          go_wp2_with (first | ((with_reducible refine gate_callee (f := 36) rfl ?_); refine goesL_ (some 18) rfl rfl Try.func36 (by kernel_rfl) rfl #[.slice A1 l1.length c1, .int .i64 x13_1] rfl (by (try simp only [List.map_toArray, List.map_cons, List.map_nil]); first | done | rfl | (simp only [List.length_drop, List.length_take]; rfl)) ?_; (with_reducible refine (rule_weight.calls _ _ l1 x13_1 t134 _ ?side1 ?side2 A6.out).mono ?_); (case side1 => repeat (first | exact (Kd.C_below HR1.out HB.out) | (with_reducible refine Kd.C_alloc ?_ _) | (with_reducible refine Kd.C_drewN ?_ _) | (with_reducible refine Kd.C_drew ?_))); (case side2 => exact HC1.out); rintro e w12 ⟨rfl, hb⟩; refine ⟨_, rfl, ?_⟩; have n0_ := Aside0.mk (Kd.R_below (by (with_reducible repeat (first | apply Kd.R_alloc | apply Kd.R_drewN | apply Kd.R_drew)); exact HO_9.out) hb); have n1_ := Aside0.mk (below_step (by repeat (first | (with_reducible first | exact HB.out | apply below_alloc | apply pw_below_drewN | apply below_drew1) | exact HB.out)) hb); clear HO_9; clear HB; have HO_9 := n0_; have HB := n1_; clear n0_ n1_; (try clear hb); (try clear hb2); (try clear hk); (try clear hi)))
          go_roundg k1
          case measure => have := HK1.out; omega
          case rel => exact ⟨(x9_1), (wrap64 (x13_1 + 1)), (by first | rfl | (simp; done) | (simp [*]; done)), H', ⟨by have := HK1.out; omega⟩, ⟨by (with_reducible repeat (first | apply Kd.R_alloc | apply Kd.R_drewN | apply Kd.R_drew)); exact HO_9.out⟩, ⟨by repeat (first | (with_reducible first | exact HB.out | apply below_alloc | apply pw_below_drewN | apply below_drew1) | exact HB.out)⟩⟩
      · rw [if_neg c5] at H
        have c5b0 : decide (x13_1 < (l0.length : Int)) = false := decide_eq_false c5
        clear c5
        replace H := Option.bind_eq_some_iff.mp H
        obtain ⟨t131, A130, H⟩ := H
        replace H : (some (mx (mn (t131.length : Int) a2) 0)) = some r := H
        have A13 := Aside0.mk A130
        clear A130
        obtain ⟨ji14, hji14⟩ : ∃ j_ : Int, (mn (t131.length : Int) a2) = j_ := ⟨_, rfl⟩
        replace H : (some (mx (ji14) 0)) = some r := by first | (rw [hji14] at H; exact H) | (simp only [hji14] at H ⊢; exact H)
        (try rw [hji14] at A13)
        have hji14_ : (if a2 < (t131.length : Int) then a2 else (t131.length : Int)) = ji14 := hji14
        obtain ⟨ji15, hji15⟩ : ∃ j_ : Int, (mx (ji14) 0) = j_ := ⟨_, rfl⟩
        replace H : (some ji15) = some r := by first | (rw [hji15] at H; exact H) | (simp only [hji15] at H ⊢; exact H)
        (try rw [hji15] at A13)
        have hji15_ : (if (ji14) < 0 then 0 else (ji14)) = ji15 := hji15
        obtain rfl := Option.some.inj H
        obtain ⟨Ao16, co16, eo16⟩ := Kd.R_slice HO_9.out
        subst eo16
        go_wp2_with (first | ((with_reducible refine gate_callee (f := 13) rfl ?_); refine goesL_ (some 29) rfl rfl Try.func13 (by kernel_rfl) rfl #[.slice Ao16 x9_1.length co16] rfl (by (try simp only [List.map_toArray, List.map_cons, List.map_nil]); first | done | rfl | (simp only [List.length_drop, List.length_take]; rfl)) ?_; (with_reducible refine (rule_Hosts.calls _ _ x9_1 t131 _ ?side1 ?side2 A13.out).mono ?_); (case side1 => repeat (first | exact (Kd.R_reads' HO_9.out).2.2 | (with_reducible refine Kd.C_alloc ?_ _) | (with_reducible refine Kd.C_drewN ?_ _) | (with_reducible refine Kd.C_drew ?_))); (case side2 => exact (Kd.R_reads' HO_9.out).2.1); rintro e w17 ⟨v132, rfl, ho0, hb⟩; refine ⟨_, rfl, ?_⟩; have n0_ := Aside0.mk (Kd.R_elder' (by (with_reducible repeat (first | apply Kd.R_alloc | apply Kd.R_drewN | apply Kd.R_drew)); exact HO_9.out) (Kd.R_base ho0) hb); have n1_ := Aside0.mk (Kd.R_lower (Kd.R_new' ho0 (Kd.R_lt (by (with_reducible repeat (first | apply Kd.R_alloc | apply Kd.R_drewN | apply Kd.R_drew)); exact HO_9.out))) (below_size (by repeat (first | (with_reducible first | exact HB.out | apply below_alloc | apply pw_below_drewN | apply below_drew1) | exact HB.out)))); have n2_ := Aside0.mk (below_step (by repeat (first | (with_reducible first | exact HB.out | apply below_alloc | apply pw_below_drewN | apply below_drew1) | exact HB.out)) hb); clear HO_9; clear HB; have HO_9 := n0_; have HO133 := n1_; have HB := n2_; clear n0_ n1_ n2_; (try clear hb); (try clear hb2); (try clear hk); (try clear hi); (try clear ho0); obtain ⟨Ao18, co18, eo18⟩ := Kd.R_slice HO133.out; subst eo18))
        go_ret
        exact ⟨by first | rfl | (simp [errW_none, errW_some] <;> rfl) | (simp only [← hji14, ← hji15]; first | rfl | (simp [errW_none, errW_some] <;> rfl)) | (simp [*, errW_none, errW_some] <;> rfl), by repeat (first | (with_reducible first | exact HB.out | apply below_alloc | apply pw_below_drewN | apply below_drew1) | exact HB.out)⟩
end Go.Proofs.Ytbaldkcnipmdjaa.P
namespace Go.Proofs.Ytbaldkcnipmdjaa.P
open Go.RowKit Go.Proofs.YtbaldkcnipmdjaaW.PrintWords Go.Proofs.YtbaldkcnipmdjaaW.PrintLast Go.Proofs.YtbaldkcnipmdjaaW.PrintMore Go.Proofs.YtbaldkcnipmdjaaW.HB
set_option linter.unusedVariables false
set_option linter.unusedSimpArgs false
def itemsF (hs ws : List Int) : List S31 := (hs.foldl insS []).map (fun h => ⟨h, sumN (nodesS hs ws h)⟩)
theorem itemsF_eq (hs ws : List Int) : itemsS hs ws = itemsF hs ws := by unfold itemsS itemsF hostsL; rw [names_law]
def plF (hs ws : List Int) (x size kind : Int) : List Int := placeS hs (itemsF hs ws) (nodesS hs ws) x size kind
theorem plF_eq (hs ws : List Int) (x size kind : Int) : plS hs ws x size kind = plF hs ws x size kind := by unfold plS plF; rw [itemsF_eq]
theorem aw_h : hostsL [3, 1, 3] = [1, 3] := by unfold hostsL; rw [names_law]; decide
theorem aw_n : plS [0] [] 1 1 1 = [] := by rw [plF_eq]; kernel_rfl
theorem aw_0 : (plS [0, 0] [65536, 65536] 7 2 2).length = 1 := by rw [plF_eq]; kernel_rfl
theorem aw_1 : (plS [0, 1] [65536, 65536] 7 1 1).length = 1 := by rw [plF_eq]; kernel_rfl
theorem aw_m : rule_Most.f 20 [0, 0, 1, 1] [1, 0, 0, 0] 2 1 = some 1 := by
  have h : ∀ l : List Int, l.length = 1 → rule_Hosts.f l = some (l.foldl insS []) := by
    intro l hl; unfold rule_Hosts.f hostsL; rw [if_pos (by omega), names_law]
  unfold rule_Most.f
  have h0 := h [0] rfl
  have h1 : ([0] : List Int).foldl insS [] = [0] := by decide
  rw [h1] at h0
  simp [rule_Most.l0, rule_weight.f, rule_domain.f, rd, mn, mx, wrap64, h0]
end Go.Proofs.Ytbaldkcnipmdjaa.P
namespace Go.Proofs.Ytbaldkcnipmdjaa.P
open Go.RowKit Go.Proofs.YtbaldkcnipmdjaaW.PrintWords Go.Proofs.YtbaldkcnipmdjaaW.PrintLast Go.Proofs.YtbaldkcnipmdjaaW.PrintMore
attribute [local go_sem] max2_int min2_int max_two min_two max_three min_three max_four min_four
set_option linter.unusedVariables false
set_option linter.unusedSimpArgs false
end Go.Proofs.Ytbaldkcnipmdjaa.P
namespace Go.Proofs.Ytbaldkcnipmdjaa.P
open Go.RowKit Go.Proofs.YtbaldkcnipmdjaaW.PrintWords Go.Proofs.YtbaldkcnipmdjaaW.PrintLast Go.Proofs.YtbaldkcnipmdjaaW.PrintMore
attribute [local go_sem] max2_int min2_int max_two min_two max_three min_three max_four min_four
set_option linter.unusedVariables false
set_option linter.unusedSimpArgs false
end Go.Proofs.Ytbaldkcnipmdjaa.P
namespace Go.Proofs.Ytbaldkcnipmdjaa.P
open Go.RowKit Go.Proofs.YtbaldkcnipmdjaaW.PrintWords Go.Proofs.YtbaldkcnipmdjaaW.PrintLast Go.Proofs.YtbaldkcnipmdjaaW.PrintMore Go.Proofs.YtbaldkcnipmdjaaW.HB
set_option linter.unusedVariables false
set_option linter.unusedSimpArgs false
end Go.Proofs.Ytbaldkcnipmdjaa.P
namespace Go.Proofs.Ytbaldkcnipmdjaa.P
open Go.RowKit Go.Proofs.YtbaldkcnipmdjaaW.PrintWords Go.Proofs.YtbaldkcnipmdjaaW.PrintLast Go.Proofs.YtbaldkcnipmdjaaW.PrintMore
attribute [local go_sem] max2_int min2_int max_two min_two max_three min_three max_four min_four
set_option linter.unusedVariables false
set_option linter.unusedSimpArgs false
end Go.Proofs.Ytbaldkcnipmdjaa.P
namespace Go.Proofs.Ytbaldkcnipmdjaa.P
open Go.RowKit Go.Proofs.YtbaldkcnipmdjaaW.PrintWords Go.Proofs.YtbaldkcnipmdjaaW.PrintLast Go.Proofs.YtbaldkcnipmdjaaW.PrintMore Go.Proofs.YtbaldkcnipmdjaaW.HB
set_option linter.unusedVariables false
set_option linter.unusedSimpArgs false
end Go.Proofs.Ytbaldkcnipmdjaa.P
namespace Go.Proofs.Ytbaldkcnipmdjaa.P
open Go.RowKit Go.Proofs.YtbaldkcnipmdjaaW.PrintWords Go.Proofs.YtbaldkcnipmdjaaW.PrintLast Go.Proofs.YtbaldkcnipmdjaaW.PrintMore Go.Proofs.YtbaldkcnipmdjaaW.HB
set_option linter.unusedVariables false
set_option linter.unusedSimpArgs false
attribute [local go_sem] max2_int min2_int max_two min_two max_three min_three max_four min_four
theorem few_calls (A : Option Addr) (c m n : Nat) (w : World) (hm : m ≤ c) :
    Calls Try.prog 9 #[.slice A m c, .int .i64 n] w fun e w' => e = .returned (.slice A (min m n) c) ∧ w' = w := by
  by_cases hnm : n < m
  · have hk : min m n = n := by omega
    rw [hk]
    have hkc : n ≤ c := by omega
    have h0 : (0 : Int) ≤ n := Int.natCast_nonneg n
    have h1 : (n : Int) ≤ c := Int.ofNat_le.2 hkc
    have h2 : (n : Int) < (m : Int) := Int.ofNat_lt.2 hnm
    go_enter Try.func9, Try.ntmps9
    go_wp2
    go_ret
    exact ⟨rfl, rfl⟩
  · have hk : min m n = m := by omega
    rw [hk]
    have h1 : (m : Int) ≤ c := Int.ofNat_le.2 hm
    have h2 : ¬ (n : Int) < (m : Int) := fun h => hnm (Int.ofNat_lt.1 h)
    go_enter Try.func9, Try.ntmps9
    go_wp2
    go_ret
    exact ⟨rfl, rfl⟩
theorem C_few {α : Type} {d : Kd α} {w : World} {A : Option Addr} {l : List α} (n : Nat) (h : Kd.C d w A l.length l) : Kd.C d w A (l.take n).length (l.take n) := by
  by_cases hn : n ≤ l.length
  · exact Kd.C_take h hn
  · rw [List.take_of_length_le (by omega)]; exact h
theorem few_len {α : Type} (l : List α) (n : Nat) : min l.length n = (l.take n).length := by rw [List.length_take, Nat.min_comm]
theorem few_at (A : Option Addr) (c : Nat) (l : List Int) (n : Nat) (w : World) (hm : l.length ≤ c) :
    Calls Try.prog 9 #[.slice A l.length c, .int .i64 n] w fun e w' => e = .returned (.slice A (l.take n).length c) ∧ w' = w := by
  rw [← few_len]; exact few_calls A c l.length n w hm
end Go.Proofs.Ytbaldkcnipmdjaa.P
namespace Go.Proofs.Ytbaldkcnipmdjaa.P
open Go.RowKit Go.Proofs.YtbaldkcnipmdjaaW.PrintWords Go.Proofs.YtbaldkcnipmdjaaW.PrintLast Go.Proofs.YtbaldkcnipmdjaaW.PrintMore
attribute [local go_sem] max2_int min2_int max_two min_two max_three min_three max_four min_four
set_option linter.unusedVariables false
set_option linter.unusedSimpArgs false
def reeflaw12_ints.l0 : Nat → List Int → List Int → Int → Option (Bool)
  | 0, _, _, _ => none
  | k + 1, x0, x1, x5 => if x5 < (x0.length : Int) then (if 0 ≤ x5 then (if x5 < (x1.length : Int) then (if (rd x0 x5) = (rd x1 x5) then (reeflaw12_ints.l0 k x0 x1 (wrap64 (x5 + 1))) else (some false)) else (none)) else (none)) else (some true)
def reeflaw12_ints.f (k : Nat) (l0 : List Int) (l1 : List Int) : Option (Bool) := if (l0.length : Int) = (l1.length : Int) then (reeflaw12_ints.l0 k l0 l1 0) else (some false)
set_option maxHeartbeats 8000000 in
set_option maxRecDepth 100000 in
theorem reeflaw12_ints.calls (k : Nat) (A0 : Option Addr) (c0 : Nat) (l0 : List Int) (A1 : Option Addr) (c1 : Nat) (l1 : List Int) (r : Bool) (w : World) (hr0 : Kd.C (Kd.int .i64) w A0 l0.length l0) (hc0 : l0.length ≤ c0) (hr1 : Kd.C (Kd.int .i64) w A1 l1.length l1) (hc1 : l1.length ≤ c1) (h : reeflaw12_ints.f k l0 l1 = some r) :
    Calls Try.prog 12 #[.slice A0 l0.length c0, .slice A1 l1.length c1] w fun e w' => e = .returned (.bool r) ∧ Drawn0 w w' := by
  have HR0 := Aside0.mk hr0
  have HC0 := Aside0.mk hc0
  clear hr0 hc0
  have HR1 := Aside0.mk hr1
  have HC1 := Aside0.mk hc1
  clear hr1 hc1
  have H : (if (l0.length : Int) = (l1.length : Int) then (reeflaw12_ints.l0 k l0 l1 0) else (some false)) = some r := h
  clear h
  by_cases c3 : (l0.length : Int) = (l1.length : Int)
  · rw [if_pos c3] at H
    have c3b0 : ((l0.length : Int) == (l1.length : Int)) = true := beq_iff_eq.mpr c3
    have c3b1 : ((l0.length : Int) != (l1.length : Int)) = false := bne_eq_false_iff_eq.mpr c3
    have c3b2 : (l0.length == l1.length) = true := by first | simpa using c3 | (simp at c3 ⊢; omega)
    clear c3
    have H' := Aside0.mk H
    clear H
    go_enter Try.func12, Try.ntmps12
    go_wp2
    repeat (go_quiet (fail); try go_wp2)
    go_loopg [5] k (fun kq v5 w' => ∃ (x5_1 : Int), v5 = .int .i64 x5_1 ∧ Aside0 (reeflaw12_ints.l0 kq l0 l1 x5_1 = some r) ∧ Aside0 (kq ≤ k) ∧ Drawn0 w w')
    case atStart => exact ⟨(0), (by first | rfl | (simp; done) | (simp [*]; done)), H', ⟨Nat.le_refl _⟩, by repeat (first | exact Drawn0.refl _ | apply Drawn0.step)⟩
    case round =>
      clear H'
      try clear c1
      try clear p2
      try clear c3
      try clear c3b0
      try clear c3b1
      try clear c3b2
      obtain ⟨x5_1, rfl, HA, HK1, ⟨m1, rfl⟩⟩ := hrel
      cases gk with
      | zero => exact absurd HA.out (by simp [reeflaw12_ints.l0])
      | succ k1 =>
        have H := HA.out
        clear HA
        simp only [reeflaw12_ints.l0] at H
        by_cases c4 : x5_1 < (l0.length : Int)
        · rw [if_pos c4] at H
          have c4b0 : decide (x5_1 < (l0.length : Int)) = true := decide_eq_true c4
          clear c4
          by_cases c5 : 0 ≤ x5_1
          · rw [if_pos c5] at H
            have c5b0 : decide (0 ≤ x5_1) = true := decide_eq_true c5
            clear c5
            by_cases c6 : x5_1 < (l1.length : Int)
            · rw [if_pos c6] at H
              have c6b0 : decide (x5_1 < (l1.length : Int)) = true := decide_eq_true c6
              clear c6
              by_cases c7 : (rd l0 x5_1) = (rd l1 x5_1)
              · rw [if_pos c7] at H
                have c7b0 : ((rd l0 x5_1) == (rd l1 x5_1)) = true := beq_iff_eq.mpr c7
                have c7b1 : ((rd l0 x5_1) != (rd l1 x5_1)) = false := bne_eq_false_iff_eq.mpr c7
                clear c7
                have H' := Aside0.mk H
                clear H
                have p158 : 0 ≤ (x5_1 : Int) := of_decide_eq_true (by first | (with_reducible assumption) | assumption)
                have q158 : x5_1 < (l0.length : Int) := of_decide_eq_true (by first | (with_reducible assumption) | assumption)
                obtain ⟨ad158, e158, hx158_0⟩ := Kd.at_int HR0.out x5_1 p158 q158
                cases e158
                replace p158 := eq_true p158
                replace q158 := eq_true q158
                have p159 : 0 ≤ (x5_1 : Int) := of_decide_eq_true (by first | (with_reducible assumption) | assumption)
                have q159 : x5_1 < (l1.length : Int) := of_decide_eq_true (by first | (with_reducible assumption) | assumption)
                obtain ⟨ad159, e159, hx159_0⟩ := Kd.at_int HR1.out x5_1 p159 q159
                cases e159
                replace p159 := eq_true p159
                replace q159 := eq_true q159
                go_wp2
                repeat (go_quiet (fail); try go_wp2)
                go_roundg k1
                case measure => have := HK1.out; omega
                case rel => exact ⟨(wrap64 (x5_1 + 1)), (by first | rfl | (simp; done) | (simp [*]; done)), H', ⟨by have := HK1.out; omega⟩, by repeat (first | exact Drawn0.refl _ | apply Drawn0.step)⟩
              · rw [if_neg c7] at H
                have c7b0 : ((rd l0 x5_1) == (rd l1 x5_1)) = false := beq_eq_false_iff_ne.mpr c7
                have c7b1 : ((rd l0 x5_1) != (rd l1 x5_1)) = true := bne_iff_ne.mpr c7
                obtain rfl := Option.some.inj H
                have p158 : 0 ≤ (x5_1 : Int) := of_decide_eq_true (by first | (with_reducible assumption) | assumption)
                have q158 : x5_1 < (l0.length : Int) := of_decide_eq_true (by first | (with_reducible assumption) | assumption)
                obtain ⟨ad158, e158, hx158_0⟩ := Kd.at_int HR0.out x5_1 p158 q158
                cases e158
                replace p158 := eq_true p158
                replace q158 := eq_true q158
                have p159 : 0 ≤ (x5_1 : Int) := of_decide_eq_true (by first | (with_reducible assumption) | assumption)
                have q159 : x5_1 < (l1.length : Int) := of_decide_eq_true (by first | (with_reducible assumption) | assumption)
                obtain ⟨ad159, e159, hx159_0⟩ := Kd.at_int HR1.out x5_1 p159 q159
                cases e159
                replace p159 := eq_true p159
                replace q159 := eq_true q159
                go_wp2
                repeat (go_quiet (fail); try go_wp2)
                go_ret
                exact ⟨by first | rfl | (simp; done) | (simp [*]; done), by repeat (first | exact Drawn0.refl _ | apply Drawn0.step)⟩
            · rw [if_neg c6] at H
              exact absurd H (by simp)
          · rw [if_neg c5] at H
            exact absurd H (by simp)
        · rw [if_neg c4] at H
          have c4b0 : decide (x5_1 < (l0.length : Int)) = false := decide_eq_false c4
          clear c4
          obtain rfl := Option.some.inj H
          go_wp2
          repeat (go_quiet (fail); try go_wp2)
          go_ret
          exact ⟨by first | rfl | (simp; done) | (simp [*]; done), by repeat (first | exact Drawn0.refl _ | apply Drawn0.step)⟩
  · rw [if_neg c3] at H
    have c3b0 : ((l0.length : Int) == (l1.length : Int)) = false := beq_eq_false_iff_ne.mpr c3
    have c3b1 : ((l0.length : Int) != (l1.length : Int)) = true := bne_iff_ne.mpr c3
    have c3b2 : (l0.length == l1.length) = false := by first | simpa using c3 | (simp at c3 ⊢; omega)
    obtain rfl := Option.some.inj H
    go_enter Try.func12, Try.ntmps12
    go_wp2
    repeat (go_quiet (fail); try go_wp2)
    go_ret
    exact ⟨by first | rfl | (simp; done) | (simp [*]; done), by repeat (first | exact Drawn0.refl _ | apply Drawn0.step)⟩
end Go.Proofs.Ytbaldkcnipmdjaa.P
namespace Go.Proofs.Ytbaldkcnipmdjaa.P
open Go.RowKit Go.Proofs.YtbaldkcnipmdjaaW.PrintWords Go.Proofs.YtbaldkcnipmdjaaW.PrintLast Go.Proofs.YtbaldkcnipmdjaaW.PrintMore Go.Proofs.YtbaldkcnipmdjaaW.HB
set_option linter.unusedVariables false
set_option linter.unusedSimpArgs false
theorem C_litT (T : TypeId) (w : World) (xs : List Int) (hl : xs.length ≤ 1000) : Kd.C (Kd.int .i64) (w.alloc (.cells (xs.map (Value.int .i64)).toArray T)) (some ⟨w.heap.size, 0, none⟩) xs.length xs := by
  have h := World.ownsRow_lit (e := T) (base := 0) (size := 1) w (xs.map (Value.int .i64)).toArray xs.length (Nat.zero_le _) (by simp [maxLen]; omega) (by simp)
  have h2 : (w.alloc (.cells (xs.map (Value.int .i64)).toArray T)).ownsRow 0 T 1 (.slice (some ⟨w.heap.size, 0, none⟩) xs.length xs.length) xs.length (xs.map (Value.int .i64)) := by simpa using h
  exact (Kd.R_reads' (R_of_own (ok := fun _ => True) (fun _ _ => trivial) h2)).2.2
theorem lit_a (T : TypeId) (w : World) : Kd.C (Kd.int .i64) (w.alloc (.cells #[.int .i64 0, .int .i64 0] T)) (some ⟨w.heap.size, 0, none⟩) 2 [0, 0] := C_litT T w [0, 0] (by decide)
theorem lit_b (T : TypeId) (w : World) : Kd.C (Kd.int .i64) (w.alloc (.cells #[.int .i64 65536, .int .i64 65536] T)) (some ⟨w.heap.size, 0, none⟩) 2 [65536, 65536] := C_litT T w [65536, 65536] (by decide)
theorem lit_c (T : TypeId) (w : World) : Kd.C (Kd.int .i64) (w.alloc (.cells #[.int .i64 0, .int .i64 1] T)) (some ⟨w.heap.size, 0, none⟩) 2 [0, 1] := C_litT T w [0, 1] (by decide)
theorem lit_d (T : TypeId) (w : World) : Kd.C (Kd.int .i64) (w.alloc (.cells #[.int .i64 0, .int .i64 0, .int .i64 1, .int .i64 1] T)) (some ⟨w.heap.size, 0, none⟩) 4 [0, 0, 1, 1] := C_litT T w [0, 0, 1, 1] (by decide)
theorem lit_e (T : TypeId) (w : World) : Kd.C (Kd.int .i64) (w.alloc (.cells #[.int .i64 1, .int .i64 0, .int .i64 0, .int .i64 0] T)) (some ⟨w.heap.size, 0, none⟩) 4 [1, 0, 0, 0] := C_litT T w [1, 0, 0, 0] (by decide)
theorem lit_f (T : TypeId) (w : World) : Kd.C (Kd.int .i64) (w.alloc (.cells #[.int .i64 0] T)) (some ⟨w.heap.size, 0, none⟩) 1 [0] := C_litT T w [0] (by decide)
theorem lit_g (T : TypeId) (w : World) : Kd.C (Kd.int .i64) (w.alloc (.cells #[.int .i64 3, .int .i64 1, .int .i64 3] T)) (some ⟨w.heap.size, 0, none⟩) 3 [3, 1, 3] := C_litT T w [3, 1, 3] (by decide)
theorem lit_h (T : TypeId) (w : World) : Kd.C (Kd.int .i64) (w.alloc (.cells #[.int .i64 1, .int .i64 3] T)) (some ⟨w.heap.size, 0, none⟩) 2 [1, 3] := C_litT T w [1, 3] (by decide)
theorem alloc_sz (w : World) (o : Obj) : (w.alloc o).heap.size = w.heap.size + 1 := Array.size_push _
theorem aw_p0 : rule_Place.f [0, 0] [65536, 65536] 7 2 2 = some (plS [0, 0] [65536, 65536] 7 2 2) := if_pos (by decide)
theorem aw_p1 : rule_Place.f [0, 1] [65536, 65536] 7 1 1 = some (plS [0, 1] [65536, 65536] 7 1 1) := if_pos (by decide)
theorem aw_p2 : rule_Place.f [0] [] 1 1 1 = some [] := (if_pos (by decide)).trans (by rw [aw_n])
theorem aw_hf : rule_Hosts.f [3, 1, 3] = some [1, 3] := by unfold rule_Hosts.f; rw [if_pos (by decide), aw_h]
theorem aw_i : reeflaw12_ints.f 5 [1, 3] [1, 3] = some true := by kernel_rfl
def reeflaw12_awake.f : Option Bool := some true
theorem aw_c0 (T U : TypeId) (w : World) : Calls Try.prog 15 #[.slice (some ⟨w.heap.size, 0, none⟩) 2 2, .slice (some ⟨w.heap.size + 1, 0, none⟩) 2 2, .int .u32 7, .int .i64 2, .int .i64 2] ((w.alloc (.cells #[.int .i64 0, .int .i64 0] T)).alloc (.cells #[.int .i64 65536, .int .i64 65536] U)) fun e w' => ∃ A c, e = .returned (.slice A 1 c) ∧ Below w.heap.size w w' := by
  have h0 := aw_0
  have hp := aw_p0
  generalize plS [0, 0] [65536, 65536] 7 2 2 = p at *
  have h := rule_Place.calls _ 2 [0, 0] _ 2 [65536, 65536] 7 2 2 p _ (Kd.C_alloc (lit_a T w) _) (by decide) (alloc_sz w _ ▸ lit_b U _) (by decide) hp
  refine h.mono ?_
  rintro e w1 ⟨v, rfl, hR, hW⟩
  obtain ⟨A, c, rfl⟩ := Kd.R_slice hR
  exact ⟨A, c, by rw [h0], below_step (below_alloc (below_alloc (Below.refl w.heap.size w) _) _) hW⟩
theorem aw_c1 (T U : TypeId) (w : World) : Calls Try.prog 15 #[.slice (some ⟨w.heap.size, 0, none⟩) 2 2, .slice (some ⟨w.heap.size + 1, 0, none⟩) 2 2, .int .u32 7, .int .i64 1, .int .i64 1] ((w.alloc (.cells #[.int .i64 0, .int .i64 1] T)).alloc (.cells #[.int .i64 65536, .int .i64 65536] U)) fun e w' => ∃ A c, e = .returned (.slice A 1 c) ∧ Below w.heap.size w w' := by
  have h0 := aw_1
  have hp := aw_p1
  generalize plS [0, 1] [65536, 65536] 7 1 1 = p at *
  have h := rule_Place.calls _ 2 [0, 1] _ 2 [65536, 65536] 7 1 1 p _ (Kd.C_alloc (lit_c T w) _) (by decide) (alloc_sz w _ ▸ lit_b U _) (by decide) hp
  refine h.mono ?_
  rintro e w1 ⟨v, rfl, hR, hW⟩
  obtain ⟨A, c, rfl⟩ := Kd.R_slice hR
  exact ⟨A, c, by rw [h0], below_step (below_alloc (below_alloc (Below.refl w.heap.size w) _) _) hW⟩
theorem aw_c2 (T U : TypeId) (w : World) : Calls Try.prog 20 #[.slice (some ⟨w.heap.size, 0, none⟩) 4 4, .slice (some ⟨w.heap.size + 1, 0, none⟩) 4 4, .int .i64 2, .int .i64 1] ((w.alloc (.cells #[.int .i64 0, .int .i64 0, .int .i64 1, .int .i64 1] T)).alloc (.cells #[.int .i64 1, .int .i64 0, .int .i64 0, .int .i64 0] U)) fun e w' => e = .returned (.int .i64 1) ∧ Below w.heap.size w w' := by
  have h := rule_Most.calls 20 _ 4 [0, 0, 1, 1] _ 4 [1, 0, 0, 0] 2 1 1 _ (Kd.C_alloc (lit_d T w) _) (by decide) (alloc_sz w _ ▸ lit_e U _) (by decide) aw_m
  refine h.mono ?_
  rintro e w1 ⟨rfl, hW⟩
  exact ⟨rfl, below_step (below_alloc (below_alloc (Below.refl w.heap.size w) _) _) hW⟩
theorem aw_c3 (T : TypeId) (w : World) : Calls Try.prog 15 #[.slice (some ⟨w.heap.size, 0, none⟩) 1 1, .slice none 0 0, .int .u32 1, .int .i64 1, .int .i64 1] (w.alloc (.cells #[.int .i64 0] T)) fun e w' => ∃ A c, e = .returned (.slice A 0 c) ∧ Below w.heap.size w w' := by
  have h := rule_Place.calls _ 1 [0] _ 0 [] 1 1 1 [] _ (lit_f T w) (by decide) (Kd.C_nil _ _) (by decide) aw_p2
  refine h.mono ?_
  rintro e w1 ⟨v, rfl, hR, hW⟩
  obtain ⟨A, c, rfl⟩ := Kd.R_slice hR
  exact ⟨A, c, rfl, below_step (below_alloc (Below.refl w.heap.size w) _) hW⟩
theorem aw_c4 (T : TypeId) (w : World) : Calls Try.prog 13 #[.slice (some ⟨w.heap.size, 0, none⟩) 3 3] (w.alloc (.cells #[.int .i64 3, .int .i64 1, .int .i64 3] T)) fun e w' => ∃ A c, e = .returned (.slice A 2 c) ∧ 2 ≤ c ∧ Kd.C (Kd.int .i64) w' A 2 [1, 3] ∧ Below w.heap.size w w' := by
  have h := rule_Hosts.calls _ 3 [3, 1, 3] [1, 3] _ (lit_g T w) (by decide) aw_hf
  refine h.mono ?_
  rintro e w1 ⟨v, rfl, hR, hW⟩
  obtain ⟨A, c, rfl⟩ := Kd.R_slice hR
  exact ⟨A, c, rfl, (Kd.R_reads' hR).2.1, (Kd.R_reads' hR).2.2, below_step (below_alloc (Below.refl w.heap.size w) _) hW⟩
theorem aw_c5 (T : TypeId) (A : Option Addr) (c : Nat) (hc : 2 ≤ c) (w : World) (hC : Kd.C (Kd.int .i64) w A 2 [1, 3]) : Calls Try.prog 12 #[.slice A 2 c, .slice (some ⟨w.heap.size, 0, none⟩) 2 2] (w.alloc (.cells #[.int .i64 1, .int .i64 3] T)) fun e w' => e = .returned (.bool true) ∧ Below w.heap.size w w' := by
  have h := reeflaw12_ints.calls 5 A c [1, 3] _ 2 [1, 3] true _ (Kd.C_alloc hC _) hc (lit_h T w) (by decide) aw_i
  refine h.mono ?_
  rintro e w1 ⟨rfl, hW⟩
  exact ⟨rfl, below_step (below_alloc (Below.refl w.heap.size w) _) hW.below⟩
end Go.Proofs.Ytbaldkcnipmdjaa.P
namespace Go.Proofs.Ytbaldkcnipmdjaa.P
open Go.RowKit Go.Proofs.YtbaldkcnipmdjaaW.PrintWords Go.Proofs.YtbaldkcnipmdjaaW.PrintLast Go.Proofs.YtbaldkcnipmdjaaW.PrintMore Go.Proofs.YtbaldkcnipmdjaaW.HB
set_option linter.unusedVariables false
set_option linter.unusedSimpArgs false
set_option maxRecDepth 100000 in
set_option maxHeartbeats 1000000 in
theorem reeflaw12_awake.calls (r : Bool) (w : World) (h : reeflaw12_awake.f = some r) : Calls Try.prog 17 #[] w fun e w' => e = .returned (.bool r) ∧ Below w.heap.size w w' := by
  obtain rfl := Option.some.inj h
  clear h
  have B0 := Below.refl w.heap.size w
  go_enter Try.func17, Try.ntmps17
  go_wp2_with (first
    | (go_at_call 15; have H := B0; clear B0; refine (aw_c0 _ _ _).mono ?_; rintro e w1 ⟨Aa, ca, rfl, hW⟩; have B1 := below_step H hW; clear H hW)
    | (go_at_call 15; have H := B1; clear B1; refine (aw_c1 _ _ _).mono ?_; rintro e w2 ⟨Ab, cb, rfl, hW⟩; have B2 := below_step H hW; clear H hW)
    | (go_at_call 20; have H := B2; clear B2; refine (aw_c2 _ _ _).mono ?_; rintro e w3 ⟨rfl, hW⟩; have B3 := below_step H hW; clear H hW)
    | (go_at_call 15; have H := B3; clear B3; refine (aw_c3 _ _).mono ?_; rintro e w4 ⟨Ac, cc, rfl, hW⟩; have B4 := below_step H hW; clear H hW)
    | (go_at_call 13; have H := B4; clear B4; refine (aw_c4 _ _).mono ?_; rintro e w5 ⟨Ad, cd, rfl, K5, C5, hW⟩; have B5 := below_step H hW; clear H hW)
    | (go_at_call 12; have H := B5; clear B5; refine (aw_c5 _ _ _ K5 _ C5).mono ?_; rintro e w6 ⟨rfl, hW⟩; have B6 := below_step H hW; clear H hW))
  go_ret
  exact ⟨rfl, B6⟩
end Go.Proofs.Ytbaldkcnipmdjaa.P
namespace Go.Proofs.Ytbaldkcnipmdjaa.P
open Go.RowKit Go.Proofs.YtbaldkcnipmdjaaW.PrintWords Go.Proofs.YtbaldkcnipmdjaaW.PrintLast Go.Proofs.YtbaldkcnipmdjaaW.PrintMore Go.Proofs.YtbaldkcnipmdjaaW.HB
set_option linter.unusedVariables false
set_option linter.unusedSimpArgs false
theorem ints_l0 (l : List Int) (hl : l.length ≤ 9223372036854775807) : ∀ (d i : Nat), l.length = i + d → reeflaw12_ints.l0 (d + 1) l l (i : Int) = some true := by
  intro d
  induction d with
  | zero =>
    intro i hi
    simp only [reeflaw12_ints.l0]
    rw [if_neg (by omega)]
  | succ d ih =>
    intro i hi
    unfold reeflaw12_ints.l0
    rw [if_pos (by omega), if_pos (by omega), if_pos (by omega), if_pos rfl]
    have e : wrap64 ((i : Int) + 1) = ((i + 1 : Nat) : Int) := by unfold wrap64; omega
    rw [e]
    exact ih (i + 1) (by omega)
theorem ints_same (l : List Int) (hl : l.length ≤ 9223372036854775807) : reeflaw12_ints.f (l.length + 1) l l = some true := by
  unfold reeflaw12_ints.f
  rw [if_pos rfl]
  exact ints_l0 l hl l.length 0 (by omega)
end Go.Proofs.Ytbaldkcnipmdjaa.P
namespace Go.Proofs.Ytbaldkcnipmdjaa.P
open Go.RowKit Go.Proofs.YtbaldkcnipmdjaaW.PrintWords Go.Proofs.YtbaldkcnipmdjaaW.PrintLast Go.Proofs.YtbaldkcnipmdjaaW.PrintMore Go.Proofs.YtbaldkcnipmdjaaW.HB
set_option linter.unusedVariables false
set_option linter.unusedSimpArgs false
theorem strawsL_wt (l : List S31) (x r : Int) : ∀ n, ∀ s ∈ strawsL l x r n, 1 ≤ wtI (rd_T31 l s.place)
  | 0, s, h => by simp [strawsL] at h
  | n + 1, s, h => by
    unfold strawsL at h
    split at h
    · rename_i hw
      rcases List.mem_append.1 h with h | h
      · exact strawsL_wt l x r n s h
      · simp at h; subst h; exact hw
    · exact strawsL_wt l x r n s h
theorem choose_wt (l : List S31) (x r : Int) (h : (chooseS l x r).2 = true) : 1 ≤ wtI (rd_T31 l (chooseS l x r).1) := by
  unfold chooseS at *
  cases hb : bestL (strawsL l x r l.length) with
  | none => rw [hb] at h; cases h
  | some s => exact strawsL_wt l x r _ s (bestL_mem _ _ hb)
theorem tries_wt (hs ws : List Int) (x : Int) : ∀ v ∈ triesL (itemsS hs ws) (nodesS hs ws) x, 1 ≤ weightS ws v := by
  have h1 : ∀ r v, tryN (itemsS hs ws) (nodesS hs ws) x r = some v → 1 ≤ weightS ws v := by
    intro r v h
    unfold tryN at h
    split at h
    · rename_i hok
      have hlt := choose_lt _ x _ hok
      have hwt := choose_wt _ x _ hok
      generalize (chooseS (nodesS hs ws _) x (r + 64)).1 = k at *
      obtain ⟨k, rfl⟩ : ∃ n : Nat, k = n := ⟨k.toNat, by omega⟩
      rw [rd_IT _ k (by omega)] at h hwt
      obtain rfl := Option.some.inj h
      have hk : k < (nodesS hs ws (rd_T31 (itemsS hs ws) (chooseS (itemsS hs ws) x r).1).f0).length := by omega
      have := nodesN_mem hs ws _ hs.length _ (List.getElem_mem hk)
      unfold wtI mn at hwt
      have h2 := this.2.2.1
      rw [← h2]
      split at hwt <;> omega
    · cases h
  have h2 : ∀ n, ∀ v ∈ trL (itemsS hs ws) (nodesS hs ws) x n, 1 ≤ weightS ws v := by
    intro n
    induction n with
    | zero => intro v h; simp [trL] at h
    | succ n ih =>
      intro v h
      unfold trL at h
      split at h
      · rename_i u hu
        rcases List.mem_append.1 h with h | h
        · exact ih v h
        · simp at h; subst h; exact h1 _ _ hu
      · exact ih v h
  intro v h
  unfold triesL at h
  split at h
  · exact h2 64 v h
  · cases h
theorem pl_sub (hs ws : List Int) (x size kind : Int) : ∀ v ∈ plS hs ws x size kind, (0 ≤ v ∧ v < hs.length) ∧ 1 ≤ weightS ws v := by
  intro v hv
  unfold plS placeS at hv
  split at hv
  · cases hv
  · have := place_sub hs kind size _ v hv
    exact ⟨tries_valid hs ws x v this, tries_wt hs ws x v this⟩
theorem pl_len (hs ws : List Int) (x size kind : Int) : ((plS hs ws x size kind).length : Int) ≤ mx size 0 := by
  unfold plS placeS mx
  split
  · simp; split <;> omega
  · have := place_max hs kind size (by omega) (triesL (itemsS hs ws) (nodesS hs ws) x)
    split <;> omega
end Go.Proofs.Ytbaldkcnipmdjaa.P
namespace Go.Proofs.Ytbaldkcnipmdjaa.P
open Go.RowKit Go.Proofs.YtbaldkcnipmdjaaW.PrintWords Go.Proofs.YtbaldkcnipmdjaaW.PrintLast Go.Proofs.YtbaldkcnipmdjaaW.PrintMore Go.Proofs.YtbaldkcnipmdjaaW.HB
set_option linter.unusedVariables false
set_option linter.unusedSimpArgs false
end Go.Proofs.Ytbaldkcnipmdjaa.P
