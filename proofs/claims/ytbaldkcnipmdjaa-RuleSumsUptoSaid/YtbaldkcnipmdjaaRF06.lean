/- Texts of this claim, merged by pack.py: PRuleMoves PReefref12Moves Q11 Q12 W7 -/
import Derived.Test.YtbaldkcnipmdjaaRF01
import Derived.Test.YtbaldkcnipmdjaaRF05
namespace Go.Proofs.Ytbaldkcnipmdjaa.P
open Go.RowKit Go.Proofs.YtbaldkcnipmdjaaW.PrintWords Go.Proofs.YtbaldkcnipmdjaaW.PrintLast Go.Proofs.YtbaldkcnipmdjaaW.PrintMore
attribute [local go_sem] max2_int min2_int max_two min_two max_three min_three max_four min_four
set_option linter.unusedVariables false
set_option linter.unusedSimpArgs false
mutual
def rule_Moves.l0 : Nat → List Int → List Int → List Int → Int → Int → Int → Int → Int → Int → Option (Int)
  | 0, _, _, _, _, _, _, _, _, _ => none
  | k + 1, x0, x1, x2, x3, x5, x6, x15, x22, x23 => if x23 < x22 then ((rule_Place.f x0 x1 ((x3 + ((x23) % 4294967296)) % 4294967296) x5 x6).bind fun t150 => ((rule_Place.f x0 x2 ((x3 + ((x23) % 4294967296)) % 4294967296) x5 x6).bind fun t153 => (rule_Moves.l1 k x0 x1 x2 x3 x5 x6 x15 t150 x22 x23 t153 (t153.length : Int) 0))) else (some x15)
def rule_Moves.l1 : Nat → List Int → List Int → List Int → Int → Int → Int → Int → List Int → Int → Int → List Int → Int → Int → Option (Int)
  | 0, _, _, _, _, _, _, _, _, _, _, _, _, _ => none
  | k + 1, x0, x1, x2, x3, x5, x6, x15, x17, x22, x23, x43, x44, x45 => if x45 < x44 then (if 0 ≤ x45 then (if x45 < (x43.length : Int) then ((slices_Contains_int_int.f k x17 (rd x43 x45)).bind fun t157 => (if t157 = true then (rule_Moves.l1 k x0 x1 x2 x3 x5 x6 x15 x17 x22 x23 x43 x44 (wrap64 (x45 + 1))) else (rule_Moves.l1 k x0 x1 x2 x3 x5 x6 (wrap64 (x15 + 1)) x17 x22 x23 x43 x44 (wrap64 (x45 + 1))))) else (none)) else (none)) else (rule_Moves.l0 k x0 x1 x2 x3 x5 x6 x15 x22 (wrap64 (x23 + 1)))
end
def rule_Moves.f (k : Nat) (l0 : List Int) (l1 : List Int) (l2 : List Int) (a3 : Int) (a4 : Int) (a5 : Int) (a6 : Int) : Option (Int) := rule_Moves.l0 k l0 l1 l2 a3 a5 a6 0 (mn (mx a4 0) 2000) 0
set_option maxHeartbeats 8000000 in
set_option maxRecDepth 100000 in
theorem rule_Moves.calls (k : Nat) (A0 : Option Addr) (c0 : Nat) (l0 : List Int) (A1 : Option Addr) (c1 : Nat) (l1 : List Int) (A2 : Option Addr) (c2 : Nat) (l2 : List Int) (a3 : Int) (a4 : Int) (a5 : Int) (a6 : Int) (r : Int) (w : World) (hr0 : Kd.C (Kd.int .i64) w A0 l0.length l0) (hc0 : l0.length ≤ c0) (hr1 : Kd.C (Kd.int .i64) w A1 l1.length l1) (hc1 : l1.length ≤ c1) (hr2 : Kd.C (Kd.int .i64) w A2 l2.length l2) (hc2 : l2.length ≤ c2) (h : rule_Moves.f k l0 l1 l2 a3 a4 a5 a6 = some r) :
    Calls Try.prog 24 #[.slice A0 l0.length c0, .slice A1 l1.length c1, .slice A2 l2.length c2, .int .u32 a3, .int .i64 a4, .int .i64 a5, .int .i64 a6] w fun e w' => e = .returned (.int .i64 r) ∧ Below w.heap.size w w' := by
  have HR0 := Aside0.mk hr0
  have HC0 := Aside0.mk hc0
  clear hr0 hc0
  have HR1 := Aside0.mk hr1
  have HC1 := Aside0.mk hc1
  clear hr1 hc1
  have HR2 := Aside0.mk hr2
  have HC2 := Aside0.mk hc2
  clear hr2 hc2
  have HB := Aside0.mk (Below.refl w.heap.size w)
  have H : (rule_Moves.l0 k l0 l1 l2 a3 a5 a6 0 (mn (mx a4 0) 2000) 0) = some r := h
  clear h
  obtain ⟨ji8, hji8⟩ : ∃ j_ : Int, (mx a4 0) = j_ := ⟨_, rfl⟩
  replace H : (rule_Moves.l0 k l0 l1 l2 a3 a5 a6 0 (mn (ji8) 2000) 0) = some r := by first | (rw [hji8] at H; exact H) | (simp only [hji8] at H ⊢; exact H)
  (try (have hji8l : 0 ≤ ji8 := by (rw [← hji8]; unfold mx; (repeat' split) <;> omega)))
  (try (have hji8m : 0 ≤ ji8 := by omega))
  have hji8_ : (if a4 < 0 then 0 else a4) = ji8 := hji8
  obtain ⟨ji9, hji9⟩ : ∃ j_ : Int, (mn (ji8) 2000) = j_ := ⟨_, rfl⟩
  replace H : (rule_Moves.l0 k l0 l1 l2 a3 a5 a6 0 ji9 0) = some r := by first | (rw [hji9] at H; exact H) | (simp only [hji9] at H ⊢; exact H)
  have hji9_ : (if 2000 < (ji8) then 2000 else (ji8)) = ji9 := hji9
  have H' := Aside0.mk H
  clear H
  go_enter Try.func24, Try.ntmps24
  go_wp2
  go_loopg [15, 23] k (fun kq v15 v23 w' => ∃ (x15_1 : Int) (x23_1 : Int), v15 = .int .i64 x15_1 ∧ v23 = .int .i64 x23_1 ∧ Aside0 (rule_Moves.l0 kq l0 l1 l2 a3 a5 a6 x15_1 ji9 x23_1 = some r) ∧ Aside0 (kq ≤ k) ∧ Aside0 (Below w.heap.size w w'))
  case atStart => exact ⟨(0), (0), (by first | rfl | (simp; done) | (simp [*]; done)), (by first | rfl | (simp; done) | (simp [*]; done)), H', ⟨Nat.le_refl _⟩, ⟨by repeat (first | (with_reducible first | exact HB.out | apply below_alloc | apply pw_below_drewN | apply below_drew1) | exact HB.out)⟩⟩
  case round =>
    clear H'
    try clear c1
    try clear c2
    try clear p2
    obtain ⟨x15_1, x23_1, rfl, rfl, HA, HK1, HB⟩ := hrel
    cases gk with
    | zero => exact absurd HA.out (by simp [rule_Moves.l0])
    | succ k1 =>
      have H := HA.out
      clear HA
      simp only [rule_Moves.l0] at H
      by_cases c10 : x23_1 < ji9
      · rw [if_pos c10] at H
        have c10b0 : decide (x23_1 < ji9) = true := decide_eq_true c10
        clear c10
        replace H := Option.bind_eq_some_iff.mp H
        obtain ⟨t150, A110, H⟩ := H
        replace H : ((rule_Place.f l0 l2 ((a3 + ((x23_1) % 4294967296)) % 4294967296) a5 a6).bind fun t153 => (rule_Moves.l1 k1 l0 l1 l2 a3 a5 a6 x15_1 t150 ji9 x23_1 t153 (t153.length : Int) 0)) = some r := H
        have A11 := Aside0.mk A110
        clear A110
        replace H := Option.bind_eq_some_iff.mp H
        obtain ⟨t153, A120, H⟩ := H
        replace H : (rule_Moves.l1 k1 l0 l1 l2 a3 a5 a6 x15_1 t150 ji9 x23_1 t153 (t153.length : Int) 0) = some r := H
        have A12 := Aside0.mk A120
        clear A120
        have H' := Aside0.mk H
        clear H
        go_wp2_with (first | ((with_reducible refine gate_callee (f := 15) rfl ?_); refine goesL_ (some 34) rfl rfl Try.func15 (by kernel_rfl) rfl #[.slice A0 l0.length c0, .slice A1 l1.length c1, .int .u32 ((a3 + ((x23_1) % 4294967296)) % 4294967296), .int .i64 a5, .int .i64 a6] rfl (by (try simp only [List.map_toArray, List.map_cons, List.map_nil]); first | done | rfl | (simp only [List.length_drop, List.length_take]; rfl)) ?_; (with_reducible refine (rule_Place.calls _ _ l0 _ _ l1 ((a3 + ((x23_1) % 4294967296)) % 4294967296) a5 a6 t150 _ ?side1 ?side2 ?side3 ?side4 A11.out).mono ?_); (case side1 => repeat (first | exact (Kd.C_below HR0.out HB.out) | (with_reducible refine Kd.C_alloc ?_ _) | (with_reducible refine Kd.C_drewN ?_ _) | (with_reducible refine Kd.C_drew ?_))); (case side2 => exact HC0.out); (case side3 => repeat (first | exact (Kd.C_below HR1.out HB.out) | (with_reducible refine Kd.C_alloc ?_ _) | (with_reducible refine Kd.C_drewN ?_ _) | (with_reducible refine Kd.C_drew ?_))); (case side4 => exact HC1.out); rintro e w13 ⟨v151, rfl, ho0, hb⟩; refine ⟨_, rfl, ?_⟩; have n0_ := Aside0.mk (Kd.R_lower ho0 (below_size (by repeat (first | (with_reducible first | exact HB.out | apply below_alloc | apply pw_below_drewN | apply below_drew1) | exact HB.out)))); have n1_ := Aside0.mk (below_step (by repeat (first | (with_reducible first | exact HB.out | apply below_alloc | apply pw_below_drewN | apply below_drew1) | exact HB.out)) hb); clear HB; have HO152 := n0_; have HB := n1_; clear n0_ n1_; (try clear hb); (try clear hb2); (try clear hk); (try clear hi); (try clear ho0)) | ((with_reducible refine gate_callee (f := 15) rfl ?_); refine goesL_ (some 43) rfl rfl Try.func15 (by kernel_rfl) rfl #[.slice A0 l0.length c0, .slice A2 l2.length c2, .int .u32 ((a3 + ((x23_1) % 4294967296)) % 4294967296), .int .i64 a5, .int .i64 a6] rfl (by (try simp only [List.map_toArray, List.map_cons, List.map_nil]); first | done | rfl | (simp only [List.length_drop, List.length_take]; rfl)) ?_; (with_reducible refine (rule_Place.calls _ _ l0 _ _ l2 ((a3 + ((x23_1) % 4294967296)) % 4294967296) a5 a6 t153 _ ?side1 ?side2 ?side3 ?side4 A12.out).mono ?_); (case side1 => repeat (first | exact (Kd.C_below HR0.out HB.out) | (with_reducible refine Kd.C_alloc ?_ _) | (with_reducible refine Kd.C_drewN ?_ _) | (with_reducible refine Kd.C_drew ?_))); (case side2 => exact HC0.out); (case side3 => repeat (first | exact (Kd.C_below HR2.out HB.out) | (with_reducible refine Kd.C_alloc ?_ _) | (with_reducible refine Kd.C_drewN ?_ _) | (with_reducible refine Kd.C_drew ?_))); (case side4 => exact HC2.out); rintro e w14 ⟨v154, rfl, ho0, hb⟩; refine ⟨_, rfl, ?_⟩; have n0_ := Aside0.mk (Kd.R_elder' (by (with_reducible repeat (first | apply Kd.R_alloc | apply Kd.R_drewN | apply Kd.R_drew)); exact HO152.out) (Kd.R_base ho0) hb); have n1_ := Aside0.mk (Kd.R_lower (Kd.R_new' ho0 (Kd.R_lt (by (with_reducible repeat (first | apply Kd.R_alloc | apply Kd.R_drewN | apply Kd.R_drew)); exact HO152.out))) (below_size (by repeat (first | (with_reducible first | exact HB.out | apply below_alloc | apply pw_below_drewN | apply below_drew1) | exact HB.out)))); have n2_ := Aside0.mk (below_step (by repeat (first | (with_reducible first | exact HB.out | apply below_alloc | apply pw_below_drewN | apply below_drew1) | exact HB.out)) hb); clear HO152; clear HB; have HO152 := n0_; have HO155 := n1_; have HB := n2_; clear n0_ n1_ n2_; (try clear hb); (try clear hb2); (try clear hk); (try clear hi); (try clear ho0); obtain ⟨Ao15, co15, eo15⟩ := Kd.R_slice HO155.out; subst eo15))
        go_loopg [15, 45] k1 (fun kq v15 v45 w' => ∃ (x15_2 : Int) (x45_2 : Int), v15 = .int .i64 x15_2 ∧ v45 = .int .i64 x45_2 ∧ Aside0 (rule_Moves.l1 kq l0 l1 l2 a3 a5 a6 x15_2 t150 ji9 x23_1 t153 (t153.length : Int) x45_2 = some r) ∧ Aside0 (kq ≤ k1) ∧ Aside0 (Kd.R (Kd.int .i64) 3 w' w.heap.size (fun k_ => some k_ ≠ ((.slice Ao15 t153.length co15) : Value).ownBlock) v151 t150) ∧ Aside0 (Kd.R (Kd.int .i64) 3 w' w.heap.size (fun k_ => some k_ ≠ (v151 : Value).ownBlock) (.slice Ao15 t153.length co15) t153) ∧ Aside0 (Below w.heap.size w w'))
        case atStart => exact ⟨(x15_1), (0), (by first | rfl | (simp; done) | (simp [*]; done)), (by first | rfl | (simp; done) | (simp [*]; done)), H', ⟨Nat.le_refl _⟩, ⟨by (with_reducible repeat (first | apply Kd.R_alloc | apply Kd.R_drewN | apply Kd.R_drew)); exact Kd.R_mono HO152.out (fun _ hk => hk.2)⟩, ⟨by (with_reducible repeat (first | apply Kd.R_alloc | apply Kd.R_drewN | apply Kd.R_drew)); exact Kd.R_mono HO155.out (fun _ hk => hk.2)⟩, ⟨by repeat (first | (with_reducible first | exact HB.out | apply below_alloc | apply pw_below_drewN | apply below_drew1) | exact HB.out)⟩⟩
        case round =>
          clear H'
          try clear c1
          try clear c2
          try clear p2
          try clear c10
          try clear c10b0
          try clear c15
          try clear p2
          obtain ⟨x15_2, x45_2, rfl, rfl, HA, HK2, HO_17, HO_43, HB⟩ := hrel
          cases gk with
          | zero => exact absurd HA.out (by simp [rule_Moves.l1])
          | succ k2 =>
            have H := HA.out
            clear HA
            simp only [rule_Moves.l1] at H
            by_cases c16 : x45_2 < (t153.length : Int)
            · rw [if_pos c16] at H
              have c16b0 : decide (x45_2 < (t153.length : Int)) = true := decide_eq_true c16
              clear c16
              by_cases c17 : 0 ≤ x45_2
              · rw [if_pos c17] at H
                have c17b0 : decide (0 ≤ x45_2) = true := decide_eq_true c17
                clear c17
                by_cases c18 : x45_2 < (t153.length : Int)
                · rw [if_pos c18] at H
                  have c18b0 : decide (x45_2 < (t153.length : Int)) = true := decide_eq_true c18
                  clear c18
                  replace H := Option.bind_eq_some_iff.mp H
                  obtain ⟨t157, A190, H⟩ := H
                  replace H : (if t157 = true then (rule_Moves.l1 k2 l0 l1 l2 a3 a5 a6 x15_2 t150 ji9 x23_1 t153 (t153.length : Int) (wrap64 (x45_2 + 1))) else (rule_Moves.l1 k2 l0 l1 l2 a3 a5 a6 (wrap64 (x15_2 + 1)) t150 ji9 x23_1 t153 (t153.length : Int) (wrap64 (x45_2 + 1)))) = some r := H
                  have A19 := Aside0.mk A190
                  clear A190
                  by_cases c20 : t157 = true
                  · subst c20
                    have H1 : (rule_Moves.l1 k2 l0 l1 l2 a3 a5 a6 x15_2 t150 ji9 x23_1 t153 (t153.length : Int) (wrap64 (x45_2 + 1))) = some r := by rw [if_pos rfl] at H; exact H
                    clear H
                    have H := H1
                    clear H1
                    have H' := Aside0.mk H
                    clear H
                    have p156 : 0 ≤ (x45_2 : Int) := of_decide_eq_true (by first | (with_reducible assumption) | assumption)
                    have q156 : x45_2 < (t153.length : Int) := of_decide_eq_true (by first | (with_reducible assumption) | assumption)
                    obtain ⟨ad156, e156, hx156_0⟩ := Kd.at_int (Kd.R_reads' HO_43.out).2.2 x45_2 p156 q156
                    cases e156
                    replace p156 := eq_true p156
                    replace q156 := eq_true q156
                    obtain ⟨Ao21, co21, eo21⟩ := Kd.R_slice HO_17.out
                    subst eo21
                    go_wp2_with (first | ((with_reducible refine gate_callee (f := 37) rfl ?_); refine goesL_ (some 51) rfl rfl Try.func37 (by kernel_rfl) rfl #[.slice Ao21 t150.length co21, .int .i64 (rd t153 x45_2)] rfl (by (try simp only [List.map_toArray, List.map_cons, List.map_nil]); first | done | rfl | (simp only [List.length_drop, List.length_take]; rfl)) ?_; (with_reducible refine (slices_Contains_int_int.calls k2 _ _ t150 (rd t153 x45_2) true _ ?side1 ?side2 A19.out).mono ?_); (case side1 => repeat (first | exact (Kd.R_reads' HO_17.out).2.2 | (with_reducible refine Kd.C_alloc ?_ _) | (with_reducible refine Kd.C_drewN ?_ _) | (with_reducible refine Kd.C_drew ?_))); (case side2 => exact (Kd.R_reads' HO_17.out).2.1); rintro e w' ⟨rfl, ⟨nd, rfl⟩⟩; refine ⟨_, rfl, ?_⟩))
                    go_roundg k2
                    case measure => have := HK1.out; have := HK2.out; omega
                    case rel => exact ⟨(x15_2), (wrap64 (x45_2 + 1)), (by first | rfl | (simp; done) | (simp [*]; done)), (by first | rfl | (simp; done) | (simp [*]; done)), H', ⟨by have := HK1.out; have := HK2.out; omega⟩, ⟨by (with_reducible repeat (first | apply Kd.R_alloc | apply Kd.R_drewN | apply Kd.R_drew)); exact HO_17.out⟩, ⟨by (with_reducible repeat (first | apply Kd.R_alloc | apply Kd.R_drewN | apply Kd.R_drew)); exact HO_43.out⟩, ⟨by repeat (first | (with_reducible first | exact HB.out | apply below_alloc | apply pw_below_drewN | apply below_drew1) | exact HB.out)⟩⟩
                  · replace c20 := Bool.eq_false_iff.mpr c20
                    subst c20
                    have H1 : (rule_Moves.l1 k2 l0 l1 l2 a3 a5 a6 (wrap64 (x15_2 + 1)) t150 ji9 x23_1 t153 (t153.length : Int) (wrap64 (x45_2 + 1))) = some r := by rw [if_neg (show ¬ (false = true) by decide)] at H; exact H
                    clear H
                    have H := H1
                    clear H1
                    have H' := Aside0.mk H
                    clear H
                    have p156 : 0 ≤ (x45_2 : Int) := of_decide_eq_true (by first | (with_reducible assumption) | assumption)
                    have q156 : x45_2 < (t153.length : Int) := of_decide_eq_true (by first | (with_reducible assumption) | assumption)
                    obtain ⟨ad156, e156, hx156_0⟩ := Kd.at_int (Kd.R_reads' HO_43.out).2.2 x45_2 p156 q156
                    cases e156
                    replace p156 := eq_true p156
                    replace q156 := eq_true q156
                    obtain ⟨Ao22, co22, eo22⟩ := Kd.R_slice HO_17.out
                    subst eo22
                    go_wp2_with (first | ((with_reducible refine gate_callee (f := 37) rfl ?_); refine goesL_ (some 51) rfl rfl Try.func37 (by kernel_rfl) rfl #[.slice Ao22 t150.length co22, .int .i64 (rd t153 x45_2)] rfl (by (try simp only [List.map_toArray, List.map_cons, List.map_nil]); first | done | rfl | (simp only [List.length_drop, List.length_take]; rfl)) ?_; (with_reducible refine (slices_Contains_int_int.calls k2 _ _ t150 (rd t153 x45_2) false _ ?side1 ?side2 A19.out).mono ?_); (case side1 => repeat (first | exact (Kd.R_reads' HO_17.out).2.2 | (with_reducible refine Kd.C_alloc ?_ _) | (with_reducible refine Kd.C_drewN ?_ _) | (with_reducible refine Kd.C_drew ?_))); (case side2 => exact (Kd.R_reads' HO_17.out).2.1); rintro e w' ⟨rfl, ⟨nd, rfl⟩⟩; refine ⟨_, rfl, ?_⟩))
                    go_roundg k2
                    case measure => have := HK1.out; have := HK2.out; omega
                    case rel => exact ⟨(wrap64 (x15_2 + 1)), (wrap64 (x45_2 + 1)), (by first | rfl | (simp; done) | (simp [*]; done)), (by first | rfl | (simp; done) | (simp [*]; done)), H', ⟨by have := HK1.out; have := HK2.out; omega⟩, ⟨by (with_reducible repeat (first | apply Kd.R_alloc | apply Kd.R_drewN | apply Kd.R_drew)); exact HO_17.out⟩, ⟨by (with_reducible repeat (first | apply Kd.R_alloc | apply Kd.R_drewN | apply Kd.R_drew)); exact HO_43.out⟩, ⟨by repeat (first | (with_reducible first | exact HB.out | apply below_alloc | apply pw_below_drewN | apply below_drew1) | exact HB.out)⟩⟩
                · rw [if_neg c18] at H
                  exact absurd H (by simp)
              · rw [if_neg c17] at H
                exact absurd H (by simp)
            · rw [if_neg c16] at H
              have c16b0 : decide (x45_2 < (t153.length : Int)) = false := decide_eq_false c16
              clear c16
              have H' := Aside0.mk H
              clear H
              go_wp2
              go_roundg k2
              case measure => have := HK1.out; have := HK2.out; omega
              case rel => exact ⟨(x15_2), (wrap64 (x23_1 + 1)), (by first | rfl | (simp; done) | (simp [*]; done)), (by first | rfl | (simp; done) | (simp [*]; done)), H', ⟨by have := HK1.out; have := HK2.out; omega⟩, ⟨by repeat (first | (with_reducible first | exact HB.out | apply below_alloc | apply pw_below_drewN | apply below_drew1) | exact HB.out)⟩⟩
      · rw [if_neg c10] at H
        have c10b0 : decide (x23_1 < ji9) = false := decide_eq_false c10
        clear c10
        obtain rfl := Option.some.inj H
        go_wp2
        go_ret
        exact ⟨by first | rfl | (simp [errW_none, errW_some] <;> rfl) | (simp only [← hji8, ← hji9]; first | rfl | (simp [errW_none, errW_some] <;> rfl)) | (simp [*, errW_none, errW_some] <;> rfl), by repeat (first | (with_reducible first | exact HB.out | apply below_alloc | apply pw_below_drewN | apply below_drew1) | exact HB.out)⟩
end Go.Proofs.Ytbaldkcnipmdjaa.P
namespace Go.Proofs.Ytbaldkcnipmdjaa.P
open Go.RowKit Go.Proofs.YtbaldkcnipmdjaaW.PrintWords Go.Proofs.YtbaldkcnipmdjaaW.PrintLast Go.Proofs.YtbaldkcnipmdjaaW.PrintMore
attribute [local go_sem] max2_int min2_int max_two min_two max_three min_three max_four min_four
set_option linter.unusedVariables false
set_option linter.unusedSimpArgs false
end Go.Proofs.Ytbaldkcnipmdjaa.P
namespace Go.Proofs.Ytbaldkcnipmdjaa.P
open Go.RowKit Go.Proofs.YtbaldkcnipmdjaaW.PrintWords Go.Proofs.YtbaldkcnipmdjaaW.PrintLast Go.Proofs.YtbaldkcnipmdjaaW.PrintMore Go.Proofs.YtbaldkcnipmdjaaW.HB
set_option linter.unusedVariables false
set_option linter.unusedSimpArgs false
theorem pl_len4 (hs ws : List Int) (x size kind : Int) (h : size ≤ 4) : (plS hs ws x size kind).length ≤ 4 := by
  have := pl_len hs ws x size kind
  unfold mx at this
  split at this <;> omega
def loadStep (out : List Int) (v : Int) : List Int := out.set v.toNat (wrap64 (rd out v + 1))
theorem loadStep_len (l : List Int) (out : List Int) : (l.foldl loadStep out).length = out.length := by
  induction l generalizing out with
  | nil => rfl
  | cons v l ih => rw [List.foldl_cons, ih]; exact List.length_set
def loadN (h ws : List Int) (from_ size kind : Int) : Nat → List Int
  | 0 => List.replicate h.length 0
  | n + 1 => (plS h ws ((from_ + ((n : Int) % 4294967296)) % 4294967296) size kind).foldl loadStep (loadN h ws from_ size kind n)
theorem loadN_len (h ws : List Int) (from_ size kind : Int) : ∀ n, (loadN h ws from_ size kind n).length = h.length
  | 0 => List.length_replicate
  | n + 1 => by unfold loadN; rw [loadStep_len, loadN_len h ws from_ size kind n]
theorem load_l1 (h ws : List Int) (from_ size kind : Int) (l : List Int) (hl : l.length ≤ 1000) (hin : ∀ v ∈ l, 0 ≤ v ∧ v < h.length) (n i : Int) (R : Option (List Int)) (k0 : Nat) :
    ∀ (d k j : Nat) (out : List Int), l.length = j + d → k0 + d + 1 ≤ k → out.length = h.length →
      (∀ K, k0 ≤ K → rule_Load.l0 K h ws from_ size kind ((l.drop j).foldl loadStep out) n (wrap64 (i + 1)) = R) →
      rule_Load.l1 k h ws from_ size kind out n i l l.length j = R := by
  intro d
  induction d with
  | zero =>
    intro k j out hj hk ho hrec
    obtain ⟨k, rfl⟩ : ∃ k', k = k' + 1 := ⟨k - 1, by omega⟩
    simp only [rule_Load.l1]
    rw [if_neg (by omega)]
    have := hrec k (by omega)
    rwa [List.drop_eq_nil_of_le (by omega), List.foldl_nil] at this
  | succ d ih =>
    intro k j out hj hk ho hrec
    obtain ⟨k, rfl⟩ : ∃ k', k = k' + 1 := ⟨k - 1, by omega⟩
    have hlt : j < l.length := by omega
    have hw : wrap64 ((j : Int) + 1) = ((j + 1 : Nat) : Int) := by unfold wrap64; omega
    have hv := hin _ (List.getElem_mem hlt)
    simp only [rule_Load.l1]
    rw [if_pos (by omega), if_pos (by omega), if_pos (by omega), rd_I l j hlt, if_pos hv.1, if_pos (by rw [ho]; exact hv.2), hw]
    refine ih k (j + 1) _ (by omega) (by omega) (by rw [List.length_set]; exact ho) ?_
    rw [List.drop_eq_getElem_cons hlt, List.foldl_cons] at hrec
    exact hrec
theorem load_l0 (h ws : List Int) (from_ size kind : Int) (hl : h.length ≤ 1000) (hs : size ≤ 4) (N : Nat) (hN : N ≤ 2000) : ∀ (d k i : Nat), N = i + d → d * 10 + 2 ≤ k →
    rule_Load.l0 k h ws from_ size kind (loadN h ws from_ size kind i) N i = some (loadN h ws from_ size kind N) := by
  intro d
  induction d with
  | zero =>
    intro k i hi hk
    obtain ⟨k, rfl⟩ : ∃ k', k = k' + 1 := ⟨k - 1, by omega⟩
    simp only [rule_Load.l0]
    rw [if_neg (by omega), show i = N from by omega]
  | succ d ih =>
    intro k i hi hk
    obtain ⟨k, rfl⟩ : ∃ k', k = k' + 1 := ⟨k - 1, by omega⟩
    have hp4 := pl_len4 h ws ((from_ + ((i : Int) % 4294967296)) % 4294967296) size kind hs
    have hsub := pl_sub h ws ((from_ + ((i : Int) % 4294967296)) % 4294967296) size kind
    have hdef : loadN h ws from_ size kind (i + 1) = (plS h ws ((from_ + ((i : Int) % 4294967296)) % 4294967296) size kind).foldl loadStep (loadN h ws from_ size kind i) := rfl
    simp only [rule_Load.l0]
    rw [if_pos (by omega), show rule_Place.f h ws ((from_ + ((i : Int) % 4294967296)) % 4294967296) size kind = some (plS h ws ((from_ + ((i : Int) % 4294967296)) % 4294967296) size kind) from by unfold rule_Place.f; rw [if_pos hl], Option.bind_some]
    generalize plS h ws ((from_ + ((i : Int) % 4294967296)) % 4294967296) size kind = p at *
    refine load_l1 h ws from_ size kind p (by omega) (fun v hv => (hsub v hv).1) N i _ (d * 10 + 2) p.length k 0 _ (by omega) (by omega) (loadN_len h ws from_ size kind i) ?_
    intro K hK
    have hw : wrap64 ((i : Int) + 1) = ((i + 1 : Nat) : Int) := by unfold wrap64; omega
    rw [List.drop_zero, hw, ← hdef]
    exact ih K (i + 1) (by omega) hK
def cntS (n : Int) : Nat := (mn (mx n 0) 2000).toNat
theorem cntS_eq (n : Int) : mn (mx n 0) 2000 = (cntS n : Int) ∧ cntS n ≤ 2000 := by
  unfold cntS
  have : 0 ≤ mn (mx n 0) 2000 ∧ mn (mx n 0) 2000 ≤ 2000 := by unfold mn mx; split <;> split <;> omega
  omega
def loadS (h ws : List Int) (from_ n size kind : Int) : List Int := loadN h ws from_ size kind (cntS n)
theorem load_eq (h ws : List Int) (from_ n size kind : Int) (hl : h.length ≤ 1000) (hs : size ≤ 4) (K : Nat) (hK : 30000 ≤ K) : rule_Load.f K h ws from_ n size kind = some (loadS h ws from_ n size kind) := by
  unfold rule_Load.f loadS
  have hc := cntS_eq n
  rw [if_pos (by omega), if_pos (by omega), hc.1, Int.toNat_natCast]
  exact load_l0 h ws from_ size kind hl hs (cntS n) hc.2 (cntS n) K 0 (by omega) (by omega)
def moveStep (a : List Int) (m v : Int) : Int := if v ∈ a then m else wrap64 (m + 1)
def movesN (h ws vs : List Int) (from_ size kind : Int) : Nat → Int
  | 0 => 0
  | n + 1 => (plS h vs ((from_ + ((n : Int) % 4294967296)) % 4294967296) size kind).foldl (moveStep (plS h ws ((from_ + ((n : Int) % 4294967296)) % 4294967296) size kind)) (movesN h ws vs from_ size kind n)
theorem moves_l1 (h ws vs : List Int) (from_ size kind : Int) (a b : List Int) (ha : a.length ≤ 4) (hb : b.length ≤ 1000) (n i : Int) (R : Option Int) (k0 : Nat) (hk0 : 10 ≤ k0) :
    ∀ (d k j : Nat) (m : Int), b.length = j + d → k0 + d + 1 ≤ k →
      (∀ K, k0 ≤ K → rule_Moves.l0 K h ws vs from_ size kind ((b.drop j).foldl (moveStep a) m) n (wrap64 (i + 1)) = R) →
      rule_Moves.l1 k h ws vs from_ size kind m a n i b b.length j = R := by
  intro d
  induction d with
  | zero =>
    intro k j m hj hk hrec
    obtain ⟨k, rfl⟩ : ∃ k', k = k' + 1 := ⟨k - 1, by omega⟩
    simp only [rule_Moves.l1]
    rw [if_neg (by omega)]
    have := hrec k (by omega)
    rwa [List.drop_eq_nil_of_le (by omega), List.foldl_nil] at this
  | succ d ih =>
    intro k j m hj hk hrec
    obtain ⟨k, rfl⟩ : ∃ k', k = k' + 1 := ⟨k - 1, by omega⟩
    have hlt : j < b.length := by omega
    have hw : wrap64 ((j : Int) + 1) = ((j + 1 : Nat) : Int) := by unfold wrap64; omega
    simp only [rule_Moves.l1]
    rw [if_pos (by omega), if_pos (by omega), if_pos (by omega), rd_I b j hlt, contains_eq a _ (by omega) k (by omega), Option.bind_some, hw]
    rw [List.drop_eq_getElem_cons hlt, List.foldl_cons] at hrec
    by_cases hm : b[j] ∈ a
    · rw [if_pos (decide_eq_true hm)]
      rw [show moveStep a m b[j] = m from if_pos hm] at hrec
      exact ih k (j + 1) _ (by omega) (by omega) hrec
    · rw [if_neg (by rw [decide_eq_false hm]; decide)]
      rw [show moveStep a m b[j] = wrap64 (m + 1) from if_neg hm] at hrec
      exact ih k (j + 1) _ (by omega) (by omega) hrec
theorem moves_l0 (h ws vs : List Int) (from_ size kind : Int) (hl : h.length ≤ 1000) (hs : size ≤ 4) (N : Nat) (hN : N ≤ 2000) : ∀ (d k i : Nat), N = i + d → d * 10 + 20 ≤ k →
    rule_Moves.l0 k h ws vs from_ size kind (movesN h ws vs from_ size kind i) N i = some (movesN h ws vs from_ size kind N) := by
  intro d
  induction d with
  | zero =>
    intro k i hi hk
    obtain ⟨k, rfl⟩ : ∃ k', k = k' + 1 := ⟨k - 1, by omega⟩
    simp only [rule_Moves.l0]
    rw [if_neg (by omega), show i = N from by omega]
  | succ d ih =>
    intro k i hi hk
    obtain ⟨k, rfl⟩ : ∃ k', k = k' + 1 := ⟨k - 1, by omega⟩
    have hpa := pl_len4 h ws ((from_ + ((i : Int) % 4294967296)) % 4294967296) size kind hs
    have hpb := pl_len4 h vs ((from_ + ((i : Int) % 4294967296)) % 4294967296) size kind hs
    have hdef : movesN h ws vs from_ size kind (i + 1) = (plS h vs ((from_ + ((i : Int) % 4294967296)) % 4294967296) size kind).foldl (moveStep (plS h ws ((from_ + ((i : Int) % 4294967296)) % 4294967296) size kind)) (movesN h ws vs from_ size kind i) := rfl
    simp only [rule_Moves.l0]
    rw [if_pos (by omega), show rule_Place.f h ws ((from_ + ((i : Int) % 4294967296)) % 4294967296) size kind = some (plS h ws ((from_ + ((i : Int) % 4294967296)) % 4294967296) size kind) from by unfold rule_Place.f; rw [if_pos hl], Option.bind_some,
      show rule_Place.f h vs ((from_ + ((i : Int) % 4294967296)) % 4294967296) size kind = some (plS h vs ((from_ + ((i : Int) % 4294967296)) % 4294967296) size kind) from by unfold rule_Place.f; rw [if_pos hl], Option.bind_some]
    generalize plS h ws ((from_ + ((i : Int) % 4294967296)) % 4294967296) size kind = a at *
    generalize plS h vs ((from_ + ((i : Int) % 4294967296)) % 4294967296) size kind = b at *
    refine moves_l1 h ws vs from_ size kind a b hpa (by omega) N i _ (d * 10 + 20) (by omega) b.length k 0 _ (by omega) (by omega) ?_
    intro K hK
    have hw : wrap64 ((i : Int) + 1) = ((i + 1 : Nat) : Int) := by unfold wrap64; omega
    rw [List.drop_zero, hw, ← hdef]
    exact ih K (i + 1) (by omega) hK
def movesS (h ws vs : List Int) (from_ n size kind : Int) : Int := movesN h ws vs from_ size kind (cntS n)
theorem moves_eq (h ws vs : List Int) (from_ n size kind : Int) (hl : h.length ≤ 1000) (hs : size ≤ 4) (K : Nat) (hK : 30000 ≤ K) : rule_Moves.f K h ws vs from_ n size kind = some (movesS h ws vs from_ n size kind) := by
  unfold rule_Moves.f movesS
  have hc := cntS_eq n
  rw [hc.1]
  exact moves_l0 h ws vs from_ size kind hl hs (cntS n) hc.2 (cntS n) K 0 (by omega) (by omega)
end Go.Proofs.Ytbaldkcnipmdjaa.P
namespace Go.Proofs.Ytbaldkcnipmdjaa.P
open Go.RowKit Go.Proofs.YtbaldkcnipmdjaaW.PrintWords Go.Proofs.YtbaldkcnipmdjaaW.PrintLast Go.Proofs.YtbaldkcnipmdjaaW.PrintMore Go.Proofs.YtbaldkcnipmdjaaW.HB
set_option linter.unusedVariables false
set_option linter.unusedSimpArgs false
theorem sum_set : ∀ (l : List Int) (i : Nat) (h : i < l.length) (x : Int), (l.set i x).sum = l.sum - l[i] + x
  | y :: l, 0, _, x => by rw [List.set_cons_zero, List.sum_cons, List.sum_cons, List.getElem_cons_zero]; omega
  | y :: l, i + 1, h, x => by
    have := sum_set l i (by simpa using h) x
    rw [List.set_cons_succ, List.sum_cons, List.sum_cons, List.getElem_cons_succ, this]; omega
theorem sum_bound : ∀ (l : List Int), (∀ x ∈ l, 0 ≤ x) → 0 ≤ l.sum ∧ ∀ x ∈ l, x ≤ l.sum
  | [], _ => ⟨by simp, fun x hx => by cases hx⟩
  | y :: l, h => by
    have ih := sum_bound l (fun x hx => h x (List.mem_cons_of_mem _ hx))
    have hy := h y (by simp)
    refine ⟨by rw [List.sum_cons]; omega, fun x hx => ?_⟩
    rw [List.sum_cons]
    rcases List.mem_cons.1 hx with rfl | hx
    · omega
    · have := ih.2 x hx; omega
theorem loads_sum : ∀ (l out : List Int), (∀ v ∈ l, 0 ≤ v ∧ v < out.length) → (∀ x ∈ out, 0 ≤ x) → out.sum + l.length ≤ 1000000 → (∀ x ∈ l.foldl loadStep out, 0 ≤ x) ∧ (l.foldl loadStep out).sum = out.sum + l.length
  | [], out, _, hn, _ => ⟨hn, by simp⟩
  | v :: l, out, hin, hn, hb => by
    have hv := hin v (by simp)
    obtain ⟨k, rfl⟩ : ∃ n : Nat, v = n := ⟨v.toNat, by omega⟩
    have hk : k < out.length := by omega
    have hs := sum_bound out hn
    have h1 := hn _ (List.getElem_mem hk)
    have h2 := hs.2 _ (List.getElem_mem hk)
    rw [List.length_cons] at hb
    have hw : wrap64 (out[k] + 1) = out[k] + 1 := by unfold wrap64; omega
    have e : loadStep out (k : Int) = out.set k (out[k] + 1) := by unfold loadStep; rw [Int.toNat_natCast, rd_I out k hk, hw]
    have hsum := sum_set out k hk (out[k] + 1)
    have ih := loads_sum l (out.set k (out[k] + 1)) (fun u hu => by rw [List.length_set]; exact hin u (by simp [hu])) (fun x hx => by
      rcases List.mem_or_eq_of_mem_set hx with hx | hx
      · exact hn x hx
      · omega) (by omega)
    rw [List.foldl_cons, e]
    refine ⟨ih.1, ?_⟩
    rw [ih.2, hsum, List.length_cons]; omega
def lenN (h ws : List Int) (from_ size kind : Int) : Nat → Int
  | 0 => 0
  | n + 1 => lenN h ws from_ size kind n + ((plS h ws ((from_ + (n : Int)) % 4294967296) size kind).length : Int)
theorem lenN_le (h ws : List Int) (from_ size kind : Int) (hs : size ≤ 4) : ∀ n : Nat, 0 ≤ lenN h ws from_ size kind n ∧ lenN h ws from_ size kind n ≤ 4 * n
  | 0 => by simp [lenN]
  | n + 1 => by
    have ih := lenN_le h ws from_ size kind hs n
    have := pl_len4 h ws ((from_ + (n : Int)) % 4294967296) size kind hs
    unfold lenN
    omega
theorem loadN_sum (h ws : List Int) (from_ size kind : Int) (hs : size ≤ 4) : ∀ n : Nat, n ≤ 2000 → (∀ x ∈ loadN h ws from_ size kind n, 0 ≤ x) ∧ (loadN h ws from_ size kind n).sum = lenN h ws from_ size kind n
  | 0, _ => by
    refine ⟨fun x hx => ?_, ?_⟩
    · have := (List.mem_replicate.1 hx).2; omega
    · unfold loadN lenN
      induction h.length with
      | zero => rfl
      | succ n ih => rw [List.replicate_succ, List.sum_cons, ih]; rfl
  | n + 1, hn => by
    have ih := loadN_sum h ws from_ size kind hs n (by omega)
    have hL := lenN_le h ws from_ size kind hs n
    have e : (from_ + ((n : Int) % 4294967296)) % 4294967296 = (from_ + (n : Int)) % 4294967296 := by omega
    have h4 := pl_len4 h ws ((from_ + (n : Int)) % 4294967296) size kind hs
    have := loads_sum (plS h ws ((from_ + (n : Int)) % 4294967296) size kind) (loadN h ws from_ size kind n) (fun v hv => by rw [loadN_len]; exact (pl_sub h ws _ size kind v hv).1) ih.1 (by rw [ih.2]; omega)
    unfold loadN lenN
    rw [e]
    exact ⟨this.1, by rw [this.2, ih.2]⟩
theorem take_sum (l : List Int) (hn : ∀ x ∈ l, 0 ≤ x) (i : Nat) : 0 ≤ (l.take i).sum ∧ (l.take i).sum ≤ l.sum := by
  have h1 := sum_bound (l.take i) (fun x hx => hn x (List.mem_of_mem_take hx))
  have h2 := sum_bound (l.drop i) (fun x hx => hn x (List.mem_of_mem_drop hx))
  have h3 : l.sum = (l.take i).sum + (l.drop i).sum := by rw [← List.sum_append, List.take_append_drop]
  omega
theorem take_step (l : List Int) (hn : ∀ x ∈ l, 0 ≤ x) (hb : l.sum ≤ 1000000) (i : Nat) (hi : i < l.length) : wrap64 ((l.take i).sum + rd l (i : Int)) = (l.take (i + 1)).sum := by
  have h1 := take_sum l hn (i + 1)
  have e : (l.take (i + 1)).sum = (l.take i).sum + l[i] := by rw [List.take_succ_eq_append_getElem hi, List.sum_append]; simp
  rw [rd_I l i hi, ← e]
  unfold wrap64
  omega
theorem moves_same (h ws : List Int) (from_ size kind : Int) : ∀ n, movesN h ws ws from_ size kind n = 0
  | 0 => rfl
  | n + 1 => by
    unfold movesN
    rw [moves_same h ws from_ size kind n]
    have : ∀ (a b : List Int), (∀ v ∈ b, v ∈ a) → b.foldl (moveStep a) 0 = 0 := by
      intro a b
      induction b with
      | nil => intro _; rfl
      | cons v b ih => intro hh; rw [List.foldl_cons, show moveStep a 0 v = 0 from if_pos (hh v (by simp))]; exact ih (fun u hu => hh u (by simp [hu]))
    exact this _ _ (fun v hv => hv)
theorem movesS_same (h ws : List Int) (from_ n size kind : Int) : movesS h ws ws from_ n size kind = 0 := moves_same h ws from_ size kind _
end Go.Proofs.Ytbaldkcnipmdjaa.P
namespace Go.Proofs.Ytbaldkcnipmdjaa.P
open Go.RowKit Go.Proofs.YtbaldkcnipmdjaaW.PrintWords Go.Proofs.YtbaldkcnipmdjaaW.PrintLast Go.Proofs.YtbaldkcnipmdjaaW.PrintMore Go.Proofs.YtbaldkcnipmdjaaW.HB
set_option linter.unusedVariables false
set_option linter.unusedSimpArgs false
attribute [local go_sem] max_two min_two max_three min_three max_four min_four
set_option maxRecDepth 100000 in
set_option maxHeartbeats 4000000 in
theorem reeflaw12_RuleSums.calls (A0 : Option Addr) (c0 : Nat) (l0 : List Int) (A1 : Option Addr) (c1 : Nat) (l1 : List Int) (a2 a3 a4 a5 : Int) (w : World) (hr0 : Kd.C (Kd.int .i64) w A0 l0.length l0) (hc0 : l0.length ≤ c0) (hr1 : Kd.C (Kd.int .i64) w A1 l1.length l1) (hc1 : l1.length ≤ c1) :
    Calls Try.prog 8 #[.slice A0 l0.length c0, .slice A1 l1.length c1, .int .u32 a2, .int .i64 a3, .int .i64 a4, .int .i64 a5] w fun e w' => e = .returned (.bool true) ∧ Below w.heap.size w w' := by
  have F0 := few_at A0 c0 l0 6 w hc0
  have C0 := C_few 6 hr0
  have L0 : (l0.take 6).length ≤ 6 := by rw [List.length_take]; omega
  have K0 : (l0.take 6).length ≤ c0 := by rw [List.length_take]; omega
  generalize l0.take 6 = h at *
  have hmax : Builtin.max2 (.int .i64 a3) (.int .i64 0) = pure (.int .i64 (if a3 < 0 then 0 else a3)) := max2_int _ _ _ _
  have hmin : Builtin.min2 (.int .i64 (if a3 < 0 then 0 else a3)) (.int .i64 20) = pure (.int .i64 (if 20 < (if a3 < 0 then 0 else a3) then 20 else (if a3 < 0 then 0 else a3))) := min2_int _ _ _ _
  have hN : ∃ N : Nat, (if 20 < (if a3 < 0 then 0 else a3) then 20 else (if a3 < 0 then 0 else a3)) = (N : Int) ∧ N ≤ 20 := ⟨(if 20 < (if a3 < 0 then 0 else a3) then 20 else (if a3 < 0 then 0 else a3)).toNat, by split <;> split <;> omega, by split <;> split <;> omega⟩
  obtain ⟨N, hN, hN20⟩ := hN
  rw [hN] at hmin
  clear hN
  generalize (if a3 < 0 then 0 else a3) = nm at *
  have hmin2 : Builtin.min2 (.int .i64 a4) (.int .i64 4) = pure (.int .i64 (if 4 < a4 then 4 else a4)) := min2_int _ _ _ _
  have hs4 : (if 4 < a4 then 4 else a4) ≤ 4 := by split <;> omega
  generalize (if 4 < a4 then 4 else a4) = s at *
  have hcnt : cntS (N : Int) = N := by have := cntS_eq (N : Int); unfold cntS mn mx; split <;> split <;> omega
  have Q1 := Aside0.mk (load_eq h l1 a2 N s a5 (by omega) hs4 2000000 (by omega))
  have M1 := Aside0.mk (moves_eq h l1 l1 a2 N s a5 (by omega) hs4 2000000 (by omega))
  rw [movesS_same] at M1
  have hls := loadN_sum h l1 a2 s a5 hs4 N (by omega)
  have hle := lenN_le h l1 a2 s a5 hs4
  have hLS : loadS h l1 a2 N s a5 = loadN h l1 a2 s a5 N := by unfold loadS; rw [hcnt]
  rw [hLS] at Q1
  have PF : ∀ x : Int, Aside0 (rule_Place.f h l1 x s a5 = some (plS h l1 x s a5)) := fun x => ⟨by unfold rule_Place.f; rw [if_pos (by omega)]⟩
  have PL : ∀ i : Nat, lenN h l1 a2 s a5 (i + 1) = lenN h l1 a2 s a5 i + ((plS h l1 ((a2 + (i : Int)) % 4294967296) s a5).length : Int) := fun i => rfl
  generalize loadN h l1 a2 s a5 N = p at *
  generalize lenN h l1 a2 s a5 = T at *
  replace PL := Aside0.mk PL
  have hle' := Aside0.mk hle
  have hp0 := Aside0.mk hls.1
  have hpT := Aside0.mk hls.2
  have hT80 : p.sum ≤ 1000000 := by rw [hls.2]; have := hle N; omega
  have hT80' := Aside0.mk hT80
  have hN20' := Aside0.mk hN20
  clear hle hls hLS hcnt hs4 hT80 hN20
  replace F0 := Aside0.mk F0
  have B0 := Below.refl w.heap.size w
  clear hr0
  go_enter Try.func8, Try.ntmps8
  go_wp2_with (first
    | (go_at_call 9; refine F0.out.mono ?_; rintro e w1 ⟨rfl, rfl⟩; clear F0)
    | (go_at_call 22; refine (rule_Load.calls 2000000 A0 c0 h A1 c1 l1 a2 N s a5 p _ C0 K0 hr1 hc1 Q1.out).mono ?_; rintro e w2 ⟨v, rfl, hR, hW⟩; obtain ⟨Ap, cp, rfl⟩ := Kd.R_slice hR; have CP := (Kd.R_reads' hR).2.2; replace C0 := Kd.C_below C0 hW; replace hr1 := Kd.C_below hr1 hW; have B1 := below_step B0 hW; clear hW hR B0 Q1))
  replace B1 := Aside0.mk B1
  have HP := Aside0.mk CP
  have D0 := Drawn0.refl w2
  clear CP
  go_loopw [15, 16] (fun v15 v16 w' => ∃ y : Int, v15 = .int .i64 ((p.take y.toNat).sum) ∧ v16 = .int .i64 y ∧ Aside0 (0 ≤ y ∧ y ≤ p.length) ∧ Drawn0 w2 w') (fun v15 v16 _ => p.length - (intOf v16).toNat)
  case atStart => exact ⟨0, by simp, rfl, ⟨by omega⟩, D0⟩
  case round =>
    obtain ⟨y, rfl, rfl, hy, ⟨m1, rfl⟩⟩ := hrel
    have hpb := HP.out.2.1
    by_cases d1 : y < (p.length : Int)
    · have p0 : 0 ≤ y := hy.out.1
      obtain ⟨ad, e, hx0⟩ := Kd.at_int HP.out y p0 d1
      cases e
      have hst := Aside0.mk (take_step p hp0.out hT80'.out y.toNat (by omega))
      rw [Int.toNat_of_nonneg p0] at hst
      have q1 := eq_true d1
      have hy2 := hy.out
      have hyn : (y + 1).toNat = y.toNat + 1 := by omega
      have hw : wrap64 (y + 1) = y + 1 := by unfold wrap64; omega
      have hw' := Aside0.mk hw
      have hyn' := Aside0.mk hyn
      replace p0 := eq_true p0
      clear hw hyn
      go_wp2
      repeat (go_quiet (fail); try go_wp2)
      go_round
      case measure => simp only [intOf]; omega
      case rel => exact ⟨y + 1, by rw [hst.out, hyn'.out], rfl, ⟨by omega⟩, by repeat (first | exact Drawn0.refl _ | apply Drawn0.step)⟩
    · have q1 := eq_false d1
      replace B1 := below_step B1.out (Drawn0.below (by repeat (first | exact Drawn0.refl _ | apply Drawn0.step) : Drawn0 w2 (w2.drewN m1)))
      have hsum : (p.take y.toNat).sum = T N := by rw [List.take_of_length_le (by have := hy.out; omega), hpT.out]
      rw [hsum]
      go_wp2
      replace B1 := Aside0.mk B1
      have HC0 := Aside0.mk C0
      have HC1 := Aside0.mk hr1
      have hT0 : T N = T N - T 0 := by have := hle'.out 0; omega
      clear C0 hr1
      go_loopw [15, 17] (fun v15 v17 w' => ∃ z : Int, v15 = .int .i64 (T N - T z.toNat) ∧ v17 = .int .i64 z ∧ Aside0 (0 ≤ z ∧ z ≤ N) ∧ Aside0 (Below w2.heap.size w2 w') ∧ Aside0 (Below w1.heap.size w1 w')) (fun v15 v17 _ => N - (intOf v17).toNat)
      case atStart => exact ⟨0, congrArg _ hT0, rfl, ⟨by omega⟩, ⟨by repeat (first | exact Below.refl _ _ | apply pw_below_drewN)⟩, B1⟩
      case round =>
        clear hT0
        obtain ⟨z, rfl, rfl, hz, HB2, HB1⟩ := hrel
        by_cases d2 : z < (N : Int)
        · have hz0 := hz.out
          have hz20 := hN20'.out
          have q2 := eq_true d2
          have hps := PL.out z.toNat
          have hb1 := hle'.out z.toNat
          have hb2 := hle'.out (z.toNat + 1)
          have hb3 := hle'.out N
          have hcc : ((z.toNat : Nat) : Int) = z := Int.toNat_of_nonneg hz0.1
          rw [hcc] at hps
          have hP := PF ((a2 + z) % 4294967296)
          generalize plS h l1 ((a2 + z) % 4294967296) s a5 = q at *
          have hst := Aside0.mk (show wrap64 (T N - T z.toNat - (q.length : Int)) = T N - T (z.toNat + 1) from by unfold wrap64; omega)
          clear hps hb1 hb2 hb3 hcc
          go_wp2_with (go_at_call 15; refine (rule_Place.calls A0 c0 h A1 c1 l1 _ s a5 q _ (Kd.C_below HC0.out HB2.out) K0 (Kd.C_below HC1.out HB2.out) hc1 hP.out).mono ?_; rintro e w5 ⟨v, rfl, hR, hW⟩; obtain ⟨Aq, cq, rfl⟩ := Kd.R_slice hR; have n1 := Aside0.mk (below_step HB1.out hW); have n2 := Aside0.mk (below_step HB2.out hW); clear hW hR)
          have hzn := Aside0.mk (show (z + 1).toNat = z.toNat + 1 from by omega)
          go_round
          case measure => simp only [intOf]; omega
          case rel => exact ⟨z + 1, by rw [hst.out, hzn.out], rfl, ⟨by omega⟩, n2, n1⟩
        · have q2 := eq_false d2
          have hzN : z.toNat = N := by have := hz.out; omega
          rw [hzN, Int.sub_self]
          go_wp2_with (first
            | (go_at_call 24; refine (rule_Moves.calls 2000000 A0 c0 h A1 c1 l1 A1 c1 l1 a2 N s a5 0 _ (Kd.C_below HC0.out HB2.out) K0 (Kd.C_below HC1.out HB2.out) hc1 (Kd.C_below HC1.out HB2.out) hc1 M1.out).mono ?_; rintro e w6 ⟨rfl, hW⟩; have B5 := below_step HB1.out hW; clear hW M1)
            | (go_at_call 17; refine (reeflaw12_awake.calls true _ rfl).mono ?_; rintro e w13 ⟨rfl, hW⟩; have B6 := below_step B5 hW; clear hW B5))
          go_ret
          exact ⟨rfl, B6⟩
end Go.Proofs.Ytbaldkcnipmdjaa.P
