/- Texts of this claim, merged by pack.py: PReefref12Valid Q6 PReefref12Most Q7 W1a PReeflaw12Ints W0 W0b W2 -/
import Derived.Test.YtbaldkcnipmdjaaRA01
import Derived.Test.YtbaldkcnipmdjaaRA05
namespace Go.Proofs.Ytbaldkcnipmdjaa.P
open Go.RowKit Go.Proofs.YtbaldkcnipmdjaaW.PrintWords Go.Proofs.YtbaldkcnipmdjaaW.PrintLast Go.Proofs.YtbaldkcnipmdjaaW.PrintMore
attribute [local go_sem] max2_int min2_int max_two min_two max_three min_three max_four min_four
set_option linter.unusedVariables false
set_option linter.unusedSimpArgs false
mutual
def reefref12_Valid.l0 : Nat → List Int → List Int → List Int → Int → Int → Int → Option (Bool)
  | 0, _, _, _, _, _, _ => none
  | k + 1, x0, x1, x2, x3, x4, x11 => if x11 < (x2.length : Int) then (if 0 ≤ x11 then (if (rd x2 x11) < 0 then (reefref12_Valid.j1 k x0 x1 x2 x3 x4 x11 true) else (if (rd x2 x11) ≥ (x0.length : Int) then (reefref12_Valid.j1 k x0 x1 x2 x3 x4 x11 true) else ((reefref12_weight.f x1 (rd x2 x11)).bind fun t314 => (reefref12_Valid.j1 k x0 x1 x2 x3 x4 x11 (t314 == 0))))) else (none)) else (some (decide ((x2.length : Int) ≤ (mx x3 0))))
def reefref12_Valid.j1 : Nat → List Int → List Int → List Int → Int → Int → Int → Bool → Option (Bool)
  | 0, _, _, _, _, _, _, _ => none
  | k + 1, x0, x1, x2, x3, x4, x11, x41 => if x41 = true then (some false) else (reefref12_Valid.l1 k x0 x1 x2 x3 x4 x11 0)
def reefref12_Valid.l1 : Nat → List Int → List Int → List Int → Int → Int → Int → Int → Option (Bool)
  | 0, _, _, _, _, _, _, _ => none
  | k + 1, x0, x1, x2, x3, x4, x11, x12 => if x12 < x11 then (if 0 ≤ x12 then (if x12 < (x2.length : Int) then (if 0 ≤ x11 then (if x11 < (x2.length : Int) then ((reefref12_clash.f x0 (rd x2 x12) (rd x2 x11) x4).bind fun t317 => (if t317 = true then (some false) else (reefref12_Valid.l1 k x0 x1 x2 x3 x4 x11 (wrap64 (x12 + 1))))) else (none)) else (none)) else (none)) else (none)) else (reefref12_Valid.l0 k x0 x1 x2 x3 x4 (wrap64 (x11 + 1)))
end
def reefref12_Valid.f (k : Nat) (l0 : List Int) (l1 : List Int) (l2 : List Int) (a3 : Int) (a4 : Int) : Option (Bool) := reefref12_Valid.l0 k l0 l1 l2 a3 a4 0
set_option maxHeartbeats 8000000 in
set_option maxRecDepth 100000 in
theorem reefref12_Valid.calls (k : Nat) (A0 : Option Addr) (c0 : Nat) (l0 : List Int) (A1 : Option Addr) (c1 : Nat) (l1 : List Int) (A2 : Option Addr) (c2 : Nat) (l2 : List Int) (a3 : Int) (a4 : Int) (r : Bool) (w : World) (hr0 : Kd.C (Kd.int .i64) w A0 l0.length l0) (hc0 : l0.length ≤ c0) (hr1 : Kd.C (Kd.int .i64) w A1 l1.length l1) (hc1 : l1.length ≤ c1) (hr2 : Kd.C (Kd.int .i64) w A2 l2.length l2) (hc2 : l2.length ≤ c2) (h : reefref12_Valid.f k l0 l1 l2 a3 a4 = some r) :
    Calls Try.prog 19 #[.slice A0 l0.length c0, .slice A1 l1.length c1, .slice A2 l2.length c2, .int .i64 a3, .int .i64 a4] w fun e w' => e = .returned (.bool r) ∧ Below w.heap.size w w' := by
  have HR0 := Aside0.mk hr0
  have HC0 := Aside0.mk hc0
  clear hr0 hc0
  have HR1 := Aside0.mk hr1
  have HC1 := Aside0.mk hc1
  clear hr1 hc1
  have HR2 := Aside0.mk hr2
  have HC2 := Aside0.mk hc2
  clear hr2 hc2
  have HB := Aside0.mk (Below.refl w.heap.size w)
  have H : (reefref12_Valid.l0 k l0 l1 l2 a3 a4 0) = some r := h
  clear h
  have H' := Aside0.mk H
  clear H
  go_enter Try.func19, Try.ntmps19
  go_wp2
  repeat (go_quiet (fail); try go_wp2)
  go_loopg [11] k (fun kq v11 w' => ∃ (x11_1 : Int), v11 = .int .i64 x11_1 ∧ Aside0 (reefref12_Valid.l0 kq l0 l1 l2 a3 a4 x11_1 = some r) ∧ Aside0 (kq ≤ k) ∧ Aside0 (Below w.heap.size w w'))
  case atStart => exact ⟨(0), (by first | rfl | (simp; done) | (simp [*]; done)), H', ⟨Nat.le_refl _⟩, ⟨by repeat (first | (with_reducible first | exact HB.out | apply below_alloc | apply pw_below_drewN | apply below_drew1) | exact HB.out)⟩⟩
  case round =>
    clear H'
    try clear c1
    try clear c2
    try clear p2
    obtain ⟨x11_1, rfl, HA, HK1, HB⟩ := hrel
    cases gk with
    | zero => exact absurd HA.out (by simp [reefref12_Valid.l0])
    | succ k1 =>
      have H := HA.out
      clear HA
      simp only [reefref12_Valid.l0] at H
      by_cases c6 : x11_1 < (l2.length : Int)
      · rw [if_pos c6] at H
        have c6b0 : decide (x11_1 < (l2.length : Int)) = true := decide_eq_true c6
        clear c6
        have HC7 := Aside0.mk H
        clear H
        go_upto_region 4 with (fail)
        repeat (go_quiet (fail); go_upto_region 4 with (fail))
        go_cut [41] (fun v41 wc => ∃ (kq : Nat) (x41_6 : Bool), v41 = .bool x41_6 ∧ Aside0 (reefref12_Valid.j1 kq l0 l1 l2 a3 a4 x11_1 x41_6 = some r) ∧ Aside0 (kq ≤ k1) ∧ Aside0 (Below w.heap.size w wc))
        case first =>
          have H := HC7.out
          clear HC7
          by_cases c8 : 0 ≤ x11_1
          · rw [if_pos c8] at H
            have c8b0 : decide (0 ≤ x11_1) = true := decide_eq_true c8
            clear c8
            (first | rw [c8b0] | (simp only [i64_w, i32_w]; rw [c8b0]) | skip)
            by_cases c9 : (rd l2 x11_1) < 0
            · rw [if_pos c9] at H
              have c9b0 : decide ((rd l2 x11_1) < 0) = true := decide_eq_true c9
              clear c9
              have H' := Aside0.mk H
              clear H
              have p311 : 0 ≤ (x11_1 : Int) := of_decide_eq_true (by first | (with_reducible assumption) | assumption)
              have q311 : x11_1 < (l2.length : Int) := of_decide_eq_true (by first | (with_reducible assumption) | assumption)
              obtain ⟨ad311, e311, hx311_0⟩ := Kd.at_int HR2.out x11_1 p311 q311
              cases e311
              replace hx311_0 := (HB.out.cell (World.block_lt_of_cell? w _ hx311_0)).trans hx311_0
              replace p311 := eq_true p311
              replace q311 := eq_true q311
              go_wp2
              repeat (go_quiet (fail); try go_wp2)
              go_meet
              case rel => exact ⟨_, (true), (by first | rfl | (simp; done) | (simp [*]; done)), H', ⟨by have := HK1.out; first | omega | exact Nat.le_refl _⟩, ⟨by repeat (first | (with_reducible first | exact HB.out | apply below_alloc | apply pw_below_drewN | apply below_drew1) | exact HB.out)⟩⟩
            · rw [if_neg c9] at H
              have c9b0 : decide ((rd l2 x11_1) < 0) = false := decide_eq_false c9
              clear c9
              by_cases c10 : (rd l2 x11_1) ≥ (l0.length : Int)
              · rw [if_pos c10] at H
                have c10b0 : decide ((l0.length : Int) ≤ (rd l2 x11_1)) = true := decide_eq_true c10
                clear c10
                have H' := Aside0.mk H
                clear H
                have p311 : 0 ≤ (x11_1 : Int) := of_decide_eq_true (by first | (with_reducible assumption) | assumption)
                have q311 : x11_1 < (l2.length : Int) := of_decide_eq_true (by first | (with_reducible assumption) | assumption)
                obtain ⟨ad311, e311, hx311_0⟩ := Kd.at_int HR2.out x11_1 p311 q311
                cases e311
                replace hx311_0 := (HB.out.cell (World.block_lt_of_cell? w _ hx311_0)).trans hx311_0
                replace p311 := eq_true p311
                replace q311 := eq_true q311
                have p312 : 0 ≤ (x11_1 : Int) := of_decide_eq_true (by first | (with_reducible assumption) | assumption)
                have q312 : x11_1 < (l2.length : Int) := of_decide_eq_true (by first | (with_reducible assumption) | assumption)
                obtain ⟨ad312, e312, hx312_0⟩ := Kd.at_int HR2.out x11_1 p312 q312
                obtain rfl : ad311 = ad312 := (by injection e312)
                replace hx312_0 := (HB.out.cell (World.block_lt_of_cell? w _ hx312_0)).trans hx312_0
                replace p312 := eq_true p312
                replace q312 := eq_true q312
                go_wp2
                repeat (go_quiet (fail); try go_wp2)
                go_meet
                case rel => exact ⟨_, (true), (by first | rfl | (simp; done) | (simp [*]; done)), H', ⟨by have := HK1.out; first | omega | exact Nat.le_refl _⟩, ⟨by repeat (first | (with_reducible first | exact HB.out | apply below_alloc | apply pw_below_drewN | apply below_drew1) | exact HB.out)⟩⟩
              · rw [if_neg c10] at H
                have c10b0 : decide ((l0.length : Int) ≤ (rd l2 x11_1)) = false := decide_eq_false c10
                clear c10
                replace H := Option.bind_eq_some_iff.mp H
                obtain ⟨t314, A110, H⟩ := H
                replace H : (reefref12_Valid.j1 k1 l0 l1 l2 a3 a4 x11_1 (t314 == 0)) = some r := H
                have A11 := Aside0.mk A110
                clear A110
                have H' := Aside0.mk H
                clear H
                have p311 : 0 ≤ (x11_1 : Int) := of_decide_eq_true (by first | (with_reducible assumption) | assumption)
                have q311 : x11_1 < (l2.length : Int) := of_decide_eq_true (by first | (with_reducible assumption) | assumption)
                obtain ⟨ad311, e311, hx311_0⟩ := Kd.at_int HR2.out x11_1 p311 q311
                cases e311
                replace hx311_0 := (HB.out.cell (World.block_lt_of_cell? w _ hx311_0)).trans hx311_0
                replace p311 := eq_true p311
                replace q311 := eq_true q311
                have p312 : 0 ≤ (x11_1 : Int) := of_decide_eq_true (by first | (with_reducible assumption) | assumption)
                have q312 : x11_1 < (l2.length : Int) := of_decide_eq_true (by first | (with_reducible assumption) | assumption)
                obtain ⟨ad312, e312, hx312_0⟩ := Kd.at_int HR2.out x11_1 p312 q312
                obtain rfl : ad311 = ad312 := (by injection e312)
                replace hx312_0 := (HB.out.cell (World.block_lt_of_cell? w _ hx312_0)).trans hx312_0
                replace p312 := eq_true p312
                replace q312 := eq_true q312
                have p313 : 0 ≤ (x11_1 : Int) := of_decide_eq_true (by first | (with_reducible assumption) | assumption)
                have q313 : x11_1 < (l2.length : Int) := of_decide_eq_true (by first | (with_reducible assumption) | assumption)
                obtain ⟨ad313, e313, hx313_0⟩ := Kd.at_int HR2.out x11_1 p313 q313
                obtain rfl : ad311 = ad313 := (by injection e313)
                replace hx313_0 := (HB.out.cell (World.block_lt_of_cell? w _ hx313_0)).trans hx313_0
                replace p313 := eq_true p313
                replace q313 := eq_true q313
                go_wp2_with (first | (go_at_call 27; (with_reducible refine (reefref12_weight.calls _ _ l1 (rd l2 x11_1) t314 _ ?side1 ?side2 A11.out).mono ?_); (case side1 => repeat (first | exact (Kd.C_below HR1.out HB.out) | (with_reducible refine Kd.C_alloc ?_ _) | (with_reducible refine Kd.C_drewN ?_ _) | (with_reducible refine Kd.C_drew ?_))); (case side2 => exact HC1.out); rintro e w12 ⟨rfl, hb⟩; have n0_ := Aside0.mk (below_step (by repeat (first | (with_reducible first | exact HB.out | apply below_alloc | apply pw_below_drewN | apply below_drew1) | exact HB.out)) hb); clear HB; have HB := n0_; clear n0_; (try clear hb); (try clear hb2); (try clear hk); (try clear hi)))
                repeat (go_quiet (first | (go_at_call 27; (with_reducible refine (reefref12_weight.calls _ _ l1 (rd l2 x11_1) t314 _ ?side1 ?side2 A11.out).mono ?_); (case side1 => repeat (first | exact (Kd.C_below HR1.out HB.out) | (with_reducible refine Kd.C_alloc ?_ _) | (with_reducible refine Kd.C_drewN ?_ _) | (with_reducible refine Kd.C_drew ?_))); (case side2 => exact HC1.out); rintro e w12 ⟨rfl, hb⟩; have n0_ := Aside0.mk (below_step (by repeat (first | (with_reducible first | exact HB.out | apply below_alloc | apply pw_below_drewN | apply below_drew1) | exact HB.out)) hb); clear HB; have HB := n0_; clear n0_; (try clear hb); (try clear hb2); (try clear hk); (try clear hi))); try go_wp2_with (first | (go_at_call 27; (with_reducible refine (reefref12_weight.calls _ _ l1 (rd l2 x11_1) t314 _ ?side1 ?side2 A11.out).mono ?_); (case side1 => repeat (first | exact (Kd.C_below HR1.out HB.out) | (with_reducible refine Kd.C_alloc ?_ _) | (with_reducible refine Kd.C_drewN ?_ _) | (with_reducible refine Kd.C_drew ?_))); (case side2 => exact HC1.out); rintro e w12 ⟨rfl, hb⟩; have n0_ := Aside0.mk (below_step (by repeat (first | (with_reducible first | exact HB.out | apply below_alloc | apply pw_below_drewN | apply below_drew1) | exact HB.out)) hb); clear HB; have HB := n0_; clear n0_; (try clear hb); (try clear hb2); (try clear hk); (try clear hi))))
                go_meet
                case rel => exact ⟨_, ((t314 == 0)), (by first | rfl | (simp; done) | (simp [*]; done)), H', ⟨by have := HK1.out; first | omega | exact Nat.le_refl _⟩, ⟨by repeat (first | (with_reducible first | exact HB.out | apply below_alloc | apply pw_below_drewN | apply below_drew1) | exact HB.out)⟩⟩
          · rw [if_neg c8] at H
            exact absurd H (by simp)
        case rest =>
          clear HC7
          try clear c1
          try clear c2
          try clear p2
          try clear p3
          try clear q3
          try clear hx3
          try clear c6
          try clear c6b0
          try clear c8
          try clear c8b0
          try clear c9
          try clear c9b0
          try clear c10
          try clear c10b0
          try clear hx311_0
          try clear hx312_0
          try clear hx313_0
          try clear p2
          try clear p311
          try clear p312
          try clear p313
          try clear q311
          try clear q312
          try clear q313
          obtain ⟨kq, x41_6, rfl, HA, HJ6, HB⟩ := hcut
          cases kq with
          | zero => exact absurd HA.out (by simp [reefref12_Valid.j1])
          | succ kj6 =>
            have H := HA.out
            clear HA
            simp only [reefref12_Valid.j1] at H
            by_cases c13 : x41_6 = true
            · subst c13
              have H1 : (some false) = some r := by rw [if_pos rfl] at H; exact H
              clear H
              have H := H1
              clear H1
              obtain rfl := Option.some.inj H
              go_wp2
              repeat (go_quiet (fail); try go_wp2)
              go_ret
              exact ⟨by first | rfl | (simp [errW_none, errW_some] <;> rfl) | (simp [*, errW_none, errW_some] <;> rfl), by repeat (first | (with_reducible first | exact HB.out | apply below_alloc | apply pw_below_drewN | apply below_drew1) | exact HB.out)⟩
            · replace c13 := Bool.eq_false_iff.mpr c13
              subst c13
              have H1 : (reefref12_Valid.l1 kj6 l0 l1 l2 a3 a4 x11_1 0) = some r := by rw [if_neg (show ¬ (false = true) by decide)] at H; exact H
              clear H
              have H := H1
              clear H1
              have H' := Aside0.mk H
              clear H
              go_wp2
              repeat (go_quiet (fail); try go_wp2)
              go_loopg [12] kj6 (fun kq v12 w' => ∃ (x12_3 : Int), v12 = .int .i64 x12_3 ∧ Aside0 (reefref12_Valid.l1 kq l0 l1 l2 a3 a4 x11_1 x12_3 = some r) ∧ Aside0 (kq ≤ kj6) ∧ Aside0 (Below w.heap.size w w'))
              case atStart => exact ⟨(0), (by first | rfl | (simp; done) | (simp [*]; done)), H', ⟨Nat.le_refl _⟩, ⟨by repeat (first | (with_reducible first | exact HB.out | apply below_alloc | apply pw_below_drewN | apply below_drew1) | exact HB.out)⟩⟩
              case round =>
                clear H'
                try clear c1
                try clear c2
                try clear p2
                try clear p3
                try clear q3
                try clear hx3
                try clear c6
                try clear c6b0
                try clear c8
                try clear c8b0
                try clear c9
                try clear c9b0
                try clear c10
                try clear c10b0
                try clear c13
                try clear hx311_0
                try clear hx312_0
                try clear hx313_0
                try clear p2
                try clear p3
                try clear p311
                try clear p312
                try clear p313
                try clear q3
                try clear q311
                try clear q312
                try clear q313
                obtain ⟨x12_3, rfl, HA, HK3, HB⟩ := hrel
                cases gk with
                | zero => exact absurd HA.out (by simp [reefref12_Valid.l1])
                | succ k3 =>
                  have H := HA.out
                  clear HA
                  simp only [reefref12_Valid.l1] at H
                  by_cases c14 : x12_3 < x11_1
                  · rw [if_pos c14] at H
                    have c14b0 : decide (x12_3 < x11_1) = true := decide_eq_true c14
                    clear c14
                    by_cases c15 : 0 ≤ x12_3
                    · rw [if_pos c15] at H
                      have c15b0 : decide (0 ≤ x12_3) = true := decide_eq_true c15
                      clear c15
                      by_cases c16 : x12_3 < (l2.length : Int)
                      · rw [if_pos c16] at H
                        have c16b0 : decide (x12_3 < (l2.length : Int)) = true := decide_eq_true c16
                        clear c16
                        by_cases c17 : 0 ≤ x11_1
                        · rw [if_pos c17] at H
                          have c17b0 : decide (0 ≤ x11_1) = true := decide_eq_true c17
                          clear c17
                          by_cases c18 : x11_1 < (l2.length : Int)
                          · rw [if_pos c18] at H
                            have c18b0 : decide (x11_1 < (l2.length : Int)) = true := decide_eq_true c18
                            clear c18
                            replace H := Option.bind_eq_some_iff.mp H
                            obtain ⟨t317, A190, H⟩ := H
                            replace H : (if t317 = true then (some false) else (reefref12_Valid.l1 k3 l0 l1 l2 a3 a4 x11_1 (wrap64 (x12_3 + 1)))) = some r := H
                            have A19 := Aside0.mk A190
                            clear A190
                            by_cases c20 : t317 = true
                            · subst c20
                              have H1 : (some false) = some r := by rw [if_pos rfl] at H; exact H
                              clear H
                              have H := H1
                              clear H1
                              obtain rfl := Option.some.inj H
                              have p315 : 0 ≤ (x12_3 : Int) := of_decide_eq_true (by first | (with_reducible assumption) | assumption)
                              have q315 : x12_3 < (l2.length : Int) := of_decide_eq_true (by first | (with_reducible assumption) | assumption)
                              obtain ⟨ad315, e315, hx315_0⟩ := Kd.at_int HR2.out x12_3 p315 q315
                              cases e315
                              replace hx315_0 := (HB.out.cell (World.block_lt_of_cell? w _ hx315_0)).trans hx315_0
                              replace p315 := eq_true p315
                              replace q315 := eq_true q315
                              have p316 : 0 ≤ (x11_1 : Int) := of_decide_eq_true (by first | (with_reducible assumption) | assumption)
                              have q316 : x11_1 < (l2.length : Int) := of_decide_eq_true (by first | (with_reducible assumption) | assumption)
                              obtain ⟨ad316, e316, hx316_0⟩ := Kd.at_int HR2.out x11_1 p316 q316
                              obtain rfl : ad315 = ad316 := (by injection e316)
                              replace hx316_0 := (HB.out.cell (World.block_lt_of_cell? w _ hx316_0)).trans hx316_0
                              replace p316 := eq_true p316
                              replace q316 := eq_true q316
                              go_wp2_with (first | (go_at_call 35; (with_reducible refine (reefref12_clash.calls _ _ l0 (rd l2 x12_3) (rd l2 x11_1) a4 true _ ?side1 ?side2 A19.out).mono ?_); (case side1 => repeat (first | exact (Kd.C_below HR0.out HB.out) | (with_reducible refine Kd.C_alloc ?_ _) | (with_reducible refine Kd.C_drewN ?_ _) | (with_reducible refine Kd.C_drew ?_))); (case side2 => exact HC0.out); rintro e w' ⟨rfl, ⟨nd, rfl⟩⟩; (try first | exact ⟨rfl, _, World.drewN_drewN _ _ _⟩ | exact ⟨rfl, _, Eq.trans (World.drewN_drewN _ _ _) (congrArg (World.drewN _) (Nat.add_assoc _ _ _))⟩)))
                              repeat (go_quiet (first | (go_at_call 35; (with_reducible refine (reefref12_clash.calls _ _ l0 (rd l2 x12_3) (rd l2 x11_1) a4 true _ ?side1 ?side2 A19.out).mono ?_); (case side1 => repeat (first | exact (Kd.C_below HR0.out HB.out) | (with_reducible refine Kd.C_alloc ?_ _) | (with_reducible refine Kd.C_drewN ?_ _) | (with_reducible refine Kd.C_drew ?_))); (case side2 => exact HC0.out); rintro e w' ⟨rfl, ⟨nd, rfl⟩⟩; (try first | exact ⟨rfl, _, World.drewN_drewN _ _ _⟩ | exact ⟨rfl, _, Eq.trans (World.drewN_drewN _ _ _) (congrArg (World.drewN _) (Nat.add_assoc _ _ _))⟩))); try go_wp2_with (first | (go_at_call 35; (with_reducible refine (reefref12_clash.calls _ _ l0 (rd l2 x12_3) (rd l2 x11_1) a4 true _ ?side1 ?side2 A19.out).mono ?_); (case side1 => repeat (first | exact (Kd.C_below HR0.out HB.out) | (with_reducible refine Kd.C_alloc ?_ _) | (with_reducible refine Kd.C_drewN ?_ _) | (with_reducible refine Kd.C_drew ?_))); (case side2 => exact HC0.out); rintro e w' ⟨rfl, ⟨nd, rfl⟩⟩; (try first | exact ⟨rfl, _, World.drewN_drewN _ _ _⟩ | exact ⟨rfl, _, Eq.trans (World.drewN_drewN _ _ _) (congrArg (World.drewN _) (Nat.add_assoc _ _ _))⟩))))
                              go_ret
                              exact ⟨by first | rfl | (simp [errW_none, errW_some] <;> rfl) | (simp [*, errW_none, errW_some] <;> rfl), by repeat (first | (with_reducible first | exact HB.out | apply below_alloc | apply pw_below_drewN | apply below_drew1) | exact HB.out)⟩
                            · replace c20 := Bool.eq_false_iff.mpr c20
                              subst c20
                              have H1 : (reefref12_Valid.l1 k3 l0 l1 l2 a3 a4 x11_1 (wrap64 (x12_3 + 1))) = some r := by rw [if_neg (show ¬ (false = true) by decide)] at H; exact H
                              clear H
                              have H := H1
                              clear H1
                              have H' := Aside0.mk H
                              clear H
                              have p315 : 0 ≤ (x12_3 : Int) := of_decide_eq_true (by first | (with_reducible assumption) | assumption)
                              have q315 : x12_3 < (l2.length : Int) := of_decide_eq_true (by first | (with_reducible assumption) | assumption)
                              obtain ⟨ad315, e315, hx315_0⟩ := Kd.at_int HR2.out x12_3 p315 q315
                              cases e315
                              replace hx315_0 := (HB.out.cell (World.block_lt_of_cell? w _ hx315_0)).trans hx315_0
                              replace p315 := eq_true p315
                              replace q315 := eq_true q315
                              have p316 : 0 ≤ (x11_1 : Int) := of_decide_eq_true (by first | (with_reducible assumption) | assumption)
                              have q316 : x11_1 < (l2.length : Int) := of_decide_eq_true (by first | (with_reducible assumption) | assumption)
                              obtain ⟨ad316, e316, hx316_0⟩ := Kd.at_int HR2.out x11_1 p316 q316
                              obtain rfl : ad315 = ad316 := (by injection e316)
                              replace hx316_0 := (HB.out.cell (World.block_lt_of_cell? w _ hx316_0)).trans hx316_0
                              replace p316 := eq_true p316
                              replace q316 := eq_true q316
                              go_wp2_with (first | (go_at_call 35; (with_reducible refine (reefref12_clash.calls _ _ l0 (rd l2 x12_3) (rd l2 x11_1) a4 false _ ?side1 ?side2 A19.out).mono ?_); (case side1 => repeat (first | exact (Kd.C_below HR0.out HB.out) | (with_reducible refine Kd.C_alloc ?_ _) | (with_reducible refine Kd.C_drewN ?_ _) | (with_reducible refine Kd.C_drew ?_))); (case side2 => exact HC0.out); rintro e w' ⟨rfl, ⟨nd, rfl⟩⟩; (try first | exact ⟨rfl, _, World.drewN_drewN _ _ _⟩ | exact ⟨rfl, _, Eq.trans (World.drewN_drewN _ _ _) (congrArg (World.drewN _) (Nat.add_assoc _ _ _))⟩)))
                              repeat (go_quiet (first | (go_at_call 35; (with_reducible refine (reefref12_clash.calls _ _ l0 (rd l2 x12_3) (rd l2 x11_1) a4 false _ ?side1 ?side2 A19.out).mono ?_); (case side1 => repeat (first | exact (Kd.C_below HR0.out HB.out) | (with_reducible refine Kd.C_alloc ?_ _) | (with_reducible refine Kd.C_drewN ?_ _) | (with_reducible refine Kd.C_drew ?_))); (case side2 => exact HC0.out); rintro e w' ⟨rfl, ⟨nd, rfl⟩⟩; (try first | exact ⟨rfl, _, World.drewN_drewN _ _ _⟩ | exact ⟨rfl, _, Eq.trans (World.drewN_drewN _ _ _) (congrArg (World.drewN _) (Nat.add_assoc _ _ _))⟩))); try go_wp2_with (first | (go_at_call 35; (with_reducible refine (reefref12_clash.calls _ _ l0 (rd l2 x12_3) (rd l2 x11_1) a4 false _ ?side1 ?side2 A19.out).mono ?_); (case side1 => repeat (first | exact (Kd.C_below HR0.out HB.out) | (with_reducible refine Kd.C_alloc ?_ _) | (with_reducible refine Kd.C_drewN ?_ _) | (with_reducible refine Kd.C_drew ?_))); (case side2 => exact HC0.out); rintro e w' ⟨rfl, ⟨nd, rfl⟩⟩; (try first | exact ⟨rfl, _, World.drewN_drewN _ _ _⟩ | exact ⟨rfl, _, Eq.trans (World.drewN_drewN _ _ _) (congrArg (World.drewN _) (Nat.add_assoc _ _ _))⟩))))
                              go_roundg k3
                              case measure => have := HK1.out; have := HJ6.out; have := HK3.out; omega
                              case rel => exact ⟨(wrap64 (x12_3 + 1)), (by first | rfl | (simp; done) | (simp [*]; done)), H', ⟨by have := HK1.out; have := HJ6.out; have := HK3.out; omega⟩, ⟨by repeat (first | (with_reducible first | exact HB.out | apply below_alloc | apply pw_below_drewN | apply below_drew1) | exact HB.out)⟩⟩
                          · rw [if_neg c18] at H
                            exact absurd H (by simp)
                        · rw [if_neg c17] at H
                          exact absurd H (by simp)
                      · rw [if_neg c16] at H
                        exact absurd H (by simp)
                    · rw [if_neg c15] at H
                      exact absurd H (by simp)
                  · rw [if_neg c14] at H
                    have c14b0 : decide (x12_3 < x11_1) = false := decide_eq_false c14
                    clear c14
                    have H' := Aside0.mk H
                    clear H
                    go_wp2
                    repeat (go_quiet (fail); try go_wp2)
                    go_roundg k3
                    case measure => have := HK1.out; have := HJ6.out; have := HK3.out; omega
                    case rel => exact ⟨(wrap64 (x11_1 + 1)), (by first | rfl | (simp; done) | (simp [*]; done)), H', ⟨by have := HK1.out; have := HJ6.out; have := HK3.out; omega⟩, ⟨by repeat (first | (with_reducible first | exact HB.out | apply below_alloc | apply pw_below_drewN | apply below_drew1) | exact HB.out)⟩⟩
      · rw [if_neg c6] at H
        have c6b0 : decide (x11_1 < (l2.length : Int)) = false := decide_eq_false c6
        clear c6
        obtain ⟨ji21, hji21⟩ : ∃ j_ : Int, (mx a3 0) = j_ := ⟨_, rfl⟩
        replace H : (some (decide ((l2.length : Int) ≤ (ji21)))) = some r := by first | (rw [hji21] at H; exact H) | (simp only [hji21] at H ⊢; exact H)
        (try (have hji21l : 0 ≤ ji21 := by (rw [← hji21]; unfold mx; (repeat' split) <;> omega)))
        (try (have hji21m : 0 ≤ ji21 := by omega))
        have hji21_ : (if a3 < 0 then 0 else a3) = ji21 := hji21
        obtain rfl := Option.some.inj H
        go_wp2
        repeat (go_quiet (fail); try go_wp2)
        go_ret
        exact ⟨by first | rfl | (simp [errW_none, errW_some] <;> rfl) | (simp only [← hji21]; first | rfl | (simp [errW_none, errW_some] <;> rfl)) | (simp [*, errW_none, errW_some] <;> rfl), by repeat (first | (with_reducible first | exact HB.out | apply below_alloc | apply pw_below_drewN | apply below_drew1) | exact HB.out)⟩
end Go.Proofs.Ytbaldkcnipmdjaa.P
namespace Go.Proofs.Ytbaldkcnipmdjaa.P
open Go.RowKit Go.Proofs.YtbaldkcnipmdjaaW.PrintWords Go.Proofs.YtbaldkcnipmdjaaW.PrintLast Go.Proofs.YtbaldkcnipmdjaaW.PrintMore Go.Proofs.YtbaldkcnipmdjaaW.HB
set_option linter.unusedVariables false
set_option linter.unusedSimpArgs false
def vl (hs ws : List Int) (kind : Int) : List Int → List Int → Bool
  | _, [] => true
  | ds, v :: l => if v < 0 then false else if v ≥ (hs.length : Int) then false else if weightS ws v < 1 then false else if domS hs kind v ∈ ds then false else vl hs ws kind (ds ++ [domS hs kind v]) l
def validS (hs ws l : List Int) (size kind : Int) : Bool := decide ((l.length : Int) ≤ mx size 0) && vl hs ws kind [] l
theorem valid_l0 (hs ws l : List Int) (kind : Int) (hl : l.length ≤ 1000) : ∀ (d k i : Nat) (ds : List Int), l.length = i + d → ds.length = i → d + 2000 ≤ k →
    rule_Valid.l0 k hs ws kind ds l l.length i = some (vl hs ws kind ds (l.drop i)) := by
  intro d
  induction d with
  | zero =>
    intro k i ds hi hd hk
    obtain ⟨k, rfl⟩ : ∃ k', k = k' + 1 := ⟨k - 1, by omega⟩
    simp only [rule_Valid.l0]
    rw [if_neg (by omega), List.drop_eq_nil_of_le (by omega)]
    rfl
  | succ d ih =>
    intro k i ds hi hd hk
    obtain ⟨k, rfl⟩ : ∃ k', k = k' + 1 := ⟨k - 1, by omega⟩
    have hlt : i < l.length := by omega
    have hw : wrap64 ((i : Int) + 1) = ((i + 1 : Nat) : Int) := by unfold wrap64; omega
    have hdr : l.drop i = l[i] :: l.drop (i + 1) := List.drop_eq_getElem_cons hlt
    simp only [rule_Valid.l0]
    rw [if_pos (by omega), if_pos (by omega), if_pos (by omega), rd_I l i hlt, hdr, hw]
    generalize hv : l[i] = v
    show _ = some (if v < 0 then false else if v ≥ (hs.length : Int) then false else if weightS ws v < 1 then false else if domS hs kind v ∈ ds then false else vl hs ws kind (ds ++ [domS hs kind v]) (l.drop (i + 1)))
    by_cases h1 : v < 0
    · rw [if_pos h1, if_pos h1]
    · rw [if_neg h1, if_neg h1]
      by_cases h2 : v ≥ (hs.length : Int)
      · rw [if_pos h2, if_pos h2]
      · rw [if_neg h2, if_neg h2, weight_eq ws v (by omega), Option.bind_some]
        by_cases h3 : weightS ws v < 1
        · rw [if_pos h3, if_pos h3]
        · rw [if_neg h3, if_neg h3, dom_eq hs kind v (by omega) (by omega), Option.bind_some, contains_eq ds _ (by omega) k (by omega), Option.bind_some]
          by_cases h4 : domS hs kind v ∈ ds
          · rw [if_pos (decide_eq_true h4), if_pos h4]
          · rw [if_neg (by simp only [decide_eq_true_eq]; exact h4), if_neg h4, Option.bind_some, if_pos (by omega)]
            exact ih k (i + 1) _ (by omega) (by rw [List.length_append, List.length_singleton, hd]) (by omega)
theorem valid_eq (hs ws l : List Int) (size kind : Int) (hl : l.length ≤ 1000) (K : Nat) (hK : 3000 ≤ K) : rule_Valid.f K hs ws l size kind = some (validS hs ws l size kind) := by
  unfold rule_Valid.f validS
  by_cases h : (l.length : Int) > mx size 0
  · rw [if_pos h, decide_eq_false (by omega), Bool.false_and]
  · rw [if_neg h, decide_eq_true (by omega), Bool.true_and]
    exact valid_l0 hs ws l kind hl l.length K 0 [] (by omega) rfl (by omega)
theorem rvalid_l1 (hs ws l : List Int) (size kind : Int) (i : Nat) (hi : i < l.length) (hl : l.length ≤ 1000) (hr : ∀ j : Nat, j ≤ i → ∀ h : j < l.length, 0 ≤ l[j] ∧ l[j] < hs.length) : ∀ (d k j : Nat), i = j + d → d + 1 ≤ k →
    (domS hs kind l[i] ∈ ((l.take i).drop j).map (domS hs kind) → reefref12_Valid.l1 k hs ws l size kind i j = some false) ∧
    (domS hs kind l[i] ∉ ((l.take i).drop j).map (domS hs kind) → reefref12_Valid.l1 k hs ws l size kind i j = reefref12_Valid.l0 (k - d - 1) hs ws l size kind ((i + 1 : Nat) : Int)) := by
  have hwi : wrap64 ((i : Int) + 1) = ((i + 1 : Nat) : Int) := by unfold wrap64; omega
  intro d
  induction d with
  | zero =>
    intro k j hj hk
    obtain ⟨k, rfl⟩ : ∃ k', k = k' + 1 := ⟨k - 1, by omega⟩
    have hd : (l.take i).drop j = [] := List.drop_eq_nil_of_le (by rw [List.length_take]; omega)
    rw [hd]
    refine ⟨fun h => (by cases h), fun _ => ?_⟩
    simp only [reefref12_Valid.l1]
    rw [if_neg (by omega), hwi, show k + 1 - 0 - 1 = k from by omega]
  | succ d ih =>
    intro k j hj hk
    obtain ⟨k, rfl⟩ : ∃ k', k = k' + 1 := ⟨k - 1, by omega⟩
    have hlt : j < l.length := by omega
    have hw : wrap64 ((j : Int) + 1) = ((j + 1 : Nat) : Int) := by unfold wrap64; omega
    have hd : (l.take i).drop j = l[j] :: (l.take i).drop (j + 1) := by
      rw [List.drop_eq_getElem_cons (by rw [List.length_take]; omega), List.getElem_take]
    have hrec := ih k (j + 1) (by omega) (by omega)
    rw [hd, List.map_cons, List.mem_cons, show k + 1 - (d + 1) - 1 = k - d - 1 from by omega]
    simp only [reefref12_Valid.l1]
    rw [if_pos (by omega), if_pos (by omega), if_pos (by omega), if_pos (by omega), if_pos (by omega), rd_I l j hlt, rd_I l i hi, clash_eq hs _ _ kind (hr j (by omega) hlt) (hr i (by omega) hi), Option.bind_some, hw]
    by_cases h : domS hs kind l[j] = domS hs kind l[i]
    · rw [if_pos (decide_eq_true h)]
      exact ⟨fun _ => rfl, fun hn => absurd (Or.inl h.symm) hn⟩
    · rw [if_neg (by simp only [decide_eq_true_eq]; exact h)]
      exact ⟨fun hm => hrec.1 (hm.resolve_left fun h' => h h'.symm), fun hn => hrec.2 fun h' => hn (Or.inr h')⟩
theorem rvalid_l0 (hs ws l : List Int) (size kind : Int) (hl : l.length ≤ 1000) : ∀ (d k i : Nat), l.length = i + d → d * 1010 + 2 ≤ k → (∀ j : Nat, j < i → ∀ h : j < l.length, 0 ≤ l[j] ∧ l[j] < hs.length) →
    reefref12_Valid.l0 k hs ws l size kind i = some (vl hs ws kind ((l.take i).map (domS hs kind)) (l.drop i) && decide ((l.length : Int) ≤ mx size 0)) := by
  intro d
  induction d with
  | zero =>
    intro k i hi hk hr
    obtain ⟨k, rfl⟩ : ∃ k', k = k' + 1 := ⟨k - 1, by omega⟩
    simp only [reefref12_Valid.l0]
    rw [if_neg (by omega), List.drop_eq_nil_of_le (by omega)]
    rfl
  | succ d ih =>
    intro k i hi hk hr
    have hk2 : d * 1010 + 2 ≤ k - 2 - i - 1 ∧ i + 3 ≤ k := by
      clear ih
      rw [Nat.succ_mul] at hk
      generalize d * 1010 = M at *
      omega
    clear hk
    obtain ⟨k, rfl⟩ : ∃ k', k = k' + 2 := ⟨k - 2, by omega⟩
    have hlt : i < l.length := by omega
    have hdr : l.drop i = l[i] :: l.drop (i + 1) := List.drop_eq_getElem_cons hlt
    have htk : l.take (i + 1) = l.take i ++ [l[i]] := List.take_succ_eq_append_getElem hlt
    simp only [reefref12_Valid.l0]
    rw [if_pos (by omega), if_pos (by omega), rd_I l i hlt, hdr]
    show _ = some ((if l[i] < 0 then false else if l[i] ≥ (hs.length : Int) then false else if weightS ws l[i] < 1 then false else if domS hs kind l[i] ∈ (l.take i).map (domS hs kind) then false else vl hs ws kind ((l.take i).map (domS hs kind) ++ [domS hs kind l[i]]) (l.drop (i + 1))) && decide ((l.length : Int) ≤ mx size 0))
    by_cases h1 : l[i] < 0
    · rw [if_pos h1, if_pos h1]; simp only [reefref12_Valid.j1]; rfl
    · rw [if_neg h1, if_neg h1]
      by_cases h2 : l[i] ≥ (hs.length : Int)
      · rw [if_pos h2, if_pos h2]; simp only [reefref12_Valid.j1]; rfl
      · have hwr := weightS_range ws l[i]
        rw [if_neg h2, if_neg h2, rweight_eq ws _ (by omega), Option.bind_some]
        simp only [reefref12_Valid.j1]
        by_cases h3 : weightS ws l[i] < 1
        · rw [if_pos h3, if_pos (by rw [show weightS ws l[i] = 0 from by omega]; rfl)]; rfl
        · rw [if_neg h3, if_neg (by simp only [beq_iff_eq]; omega)]
          have hr2 : ∀ j : Nat, j ≤ i → ∀ h : j < l.length, 0 ≤ l[j] ∧ l[j] < hs.length := by
            intro j hj h
            rcases Nat.lt_or_eq_of_le hj with hj | rfl
            · exact hr j hj h
            · omega
          have hl1 := rvalid_l1 hs ws l size kind i hlt hl hr2 i k 0 (by omega) (by omega)
          rw [List.drop_zero] at hl1
          by_cases h4 : domS hs kind l[i] ∈ (l.take i).map (domS hs kind)
          · rw [if_pos h4]; exact (hl1.1 h4).trans rfl
          · rw [if_neg h4]
            refine (hl1.2 h4).trans ?_
            rw [ih (k - i - 1) (i + 1) (by omega) (by omega) (fun j hj h => hr2 j (by omega) h), htk, List.map_append]
            rfl
theorem rvalid_eq (hs ws l : List Int) (size kind : Int) (hl : l.length ≤ 1000) (K : Nat) (hK : 1020000 ≤ K) : reefref12_Valid.f K hs ws l size kind = some (validS hs ws l size kind) := by
  unfold reefref12_Valid.f validS
  have hb : l.length * 1010 + 2 ≤ K := Nat.le_trans (Nat.add_le_add_right (Nat.mul_le_mul_right 1010 hl) 2) (Nat.le_trans (Nat.le_of_ble_eq_true rfl) hK)
  have h := rvalid_l0 hs ws l size kind hl l.length K 0 (by omega) hb (fun j hj => absurd hj (by omega))
  rw [Bool.and_comm]
  exact h
end Go.Proofs.Ytbaldkcnipmdjaa.P
namespace Go.Proofs.Ytbaldkcnipmdjaa.P
open Go.RowKit Go.Proofs.YtbaldkcnipmdjaaW.PrintWords Go.Proofs.YtbaldkcnipmdjaaW.PrintLast Go.Proofs.YtbaldkcnipmdjaaW.PrintMore
attribute [local go_sem] max2_int min2_int max_two min_two max_three min_three max_four min_four
set_option linter.unusedVariables false
set_option linter.unusedSimpArgs false
mutual
def reefref12_Most.l0 : Nat → List Int → List Int → Int → Int → List Int → Int → Option (Int)
  | 0, _, _, _, _, _, _ => none
  | k + 1, x0, x1, x2, x3, x9, x10 => if x10 < (x0.length : Int) then ((reefref12_weight.f x1 x10).bind fun t318 => (reefref12_Most.l1 k x0 x1 x2 x3 x9 x10 (decide (t318 > 0)) 0)) else (some (mn (x9.length : Int) (mx x2 0)))
def reefref12_Most.l1 : Nat → List Int → List Int → Int → Int → List Int → Int → Bool → Int → Option (Int)
  | 0, _, _, _, _, _, _, _, _ => none
  | k + 1, x0, x1, x2, x3, x9, x10, x11, x12 => if x12 < (x9.length : Int) then (if x11 = true then (if 0 ≤ x12 then ((reefref12_clash.f x0 (rd x9 x12) x10 x3).bind fun t320 => (reefref12_Most.l1 k x0 x1 x2 x3 x9 x10 (!t320) (wrap64 (x12 + 1)))) else (none)) else (reefref12_Most.l0 k x0 x1 x2 x3 x9 (wrap64 (x10 + 1)))) else (if x11 = true then (if x9.length < 17592186044416 then (reefref12_Most.l0 k x0 x1 x2 x3 (x9 ++ [x10]) (wrap64 (x10 + 1))) else (none)) else (reefref12_Most.l0 k x0 x1 x2 x3 x9 (wrap64 (x10 + 1))))
end
def reefref12_Most.f (k : Nat) (l0 : List Int) (l1 : List Int) (a2 : Int) (a3 : Int) : Option (Int) := reefref12_Most.l0 k l0 l1 a2 a3 ([] : List Int) 0
set_option maxHeartbeats 8000000 in
set_option maxRecDepth 100000 in
theorem reefref12_Most.calls (k : Nat) (A0 : Option Addr) (c0 : Nat) (l0 : List Int) (A1 : Option Addr) (c1 : Nat) (l1 : List Int) (a2 : Int) (a3 : Int) (r : Int) (w : World) (hr0 : Kd.C (Kd.int .i64) w A0 l0.length l0) (hc0 : l0.length ≤ c0) (hr1 : Kd.C (Kd.int .i64) w A1 l1.length l1) (hc1 : l1.length ≤ c1) (h : reefref12_Most.f k l0 l1 a2 a3 = some r) :
    Calls Try.prog 21 #[.slice A0 l0.length c0, .slice A1 l1.length c1, .int .i64 a2, .int .i64 a3] w fun e w' => e = .returned (.int .i64 r) ∧ Below w.heap.size w w' := by
  have HR0 := Aside0.mk hr0
  have HC0 := Aside0.mk hc0
  clear hr0 hc0
  have HR1 := Aside0.mk hr1
  have HC1 := Aside0.mk hc1
  clear hr1 hc1
  have HB := Aside0.mk (Below.refl w.heap.size w)
  have H : (reefref12_Most.l0 k l0 l1 a2 a3 ([] : List Int) 0) = some r := h
  clear h
  have H' := Aside0.mk H
  clear H
  go_enter Try.func21, Try.ntmps21
  go_wp2
  go_loopg [9, 10] k (fun kq v9 v10 w' => ∃ (x9_1 : List Int) (x10_1 : Int), v10 = .int .i64 x10_1 ∧ Aside0 (reefref12_Most.l0 kq l0 l1 a2 a3 x9_1 x10_1 = some r) ∧ Aside0 (kq ≤ k) ∧ Aside0 (Kd.R (Kd.int .i64) 3 w' w.heap.size (fun _ => True) v9 x9_1) ∧ Aside0 (Below w.heap.size w w'))
  case atStart => exact ⟨(([] : List Int)), (0), (by first | rfl | (simp; done) | (simp [*]; done)), H', ⟨Nat.le_refl _⟩, ⟨by first | exact Kd.R_nil _ _ _ _ _ | exact Kd.N_nil _ _ _ _ _ | exact Kd.V_nil _ _ _ _ _ | exact Kd.Q_nil _ _ _ _ _ | exact Kd.S_nil _ _ _ _ _⟩, ⟨by repeat (first | (with_reducible first | exact HB.out | apply below_alloc | apply pw_below_drewN | apply below_drew1) | exact HB.out)⟩⟩
  case round =>
    clear H'
    try clear c1
    try clear c2
    try clear p2
    obtain ⟨x9_1, x10_1, rfl, HA, HK1, HO_9, HB⟩ := hrel
    cases gk with
    | zero => exact absurd HA.out (by simp [reefref12_Most.l0])
    | succ k1 =>
      have H := HA.out
      clear HA
      simp only [reefref12_Most.l0] at H
      by_cases c5 : x10_1 < (l0.length : Int)
      · rw [if_pos c5] at H
        have c5b0 : decide (x10_1 < (l0.length : Int)) = true := decide_eq_true c5
        clear c5
        replace H := Option.bind_eq_some_iff.mp H
        obtain ⟨t318, A60, H⟩ := H
        replace H : (reefref12_Most.l1 k1 l0 l1 a2 a3 x9_1 x10_1 (decide (t318 > 0)) 0) = some r := H
        have A6 := Aside0.mk A60
        clear A60
        have H' := Aside0.mk H
        clear H
        go_wp2_with (first | ((with_reducible refine gate_callee (f := 27) rfl ?_); refine goesL_ (some 21) rfl rfl Try.func27 (by kernel_rfl) rfl #[.slice A1 l1.length c1, .int .i64 x10_1] rfl (by (try simp only [List.map_toArray, List.map_cons, List.map_nil]); first | done | rfl | (simp only [List.length_drop, List.length_take]; rfl)) ?_; (with_reducible refine (reefref12_weight.calls _ _ l1 x10_1 t318 _ ?side1 ?side2 A6.out).mono ?_); (case side1 => repeat (first | exact (Kd.C_below HR1.out HB.out) | (with_reducible refine Kd.C_alloc ?_ _) | (with_reducible refine Kd.C_drewN ?_ _) | (with_reducible refine Kd.C_drew ?_))); (case side2 => exact HC1.out); rintro e w7 ⟨rfl, hb⟩; refine ⟨_, rfl, ?_⟩; have n0_ := Aside0.mk (Kd.R_below (by (with_reducible repeat (first | apply Kd.R_alloc | apply Kd.R_drewN | apply Kd.R_drew)); exact HO_9.out) hb); have n1_ := Aside0.mk (below_step (by repeat (first | (with_reducible first | exact HB.out | apply below_alloc | apply pw_below_drewN | apply below_drew1) | exact HB.out)) hb); clear HO_9; clear HB; have HO_9 := n0_; have HB := n1_; clear n0_ n1_; (try clear hb); (try clear hb2); (try clear hk); (try clear hi)))
        go_loopg [11, 12] k1 (fun kq v11 v12 w' => ∃ (x11_2 : Bool) (x12_2 : Int), v11 = .bool x11_2 ∧ v12 = .int .i64 x12_2 ∧ Aside0 (reefref12_Most.l1 kq l0 l1 a2 a3 x9_1 x10_1 x11_2 x12_2 = some r) ∧ Aside0 (kq ≤ k1) ∧ Aside0 (Kd.R (Kd.int .i64) 3 w' w.heap.size (fun _ => True) u9 x9_1) ∧ Aside0 (Below w.heap.size w w'))
        case atStart => exact ⟨(decide (t318 > 0)), (0), (by first | rfl | (simp; done) | (simp [*]; done)), (by first | rfl | (simp; done) | (simp [*]; done)), H', ⟨Nat.le_refl _⟩, ⟨by (with_reducible repeat (first | apply Kd.R_alloc | apply Kd.R_drewN | apply Kd.R_drew)); exact HO_9.out⟩, ⟨by repeat (first | (with_reducible first | exact HB.out | apply below_alloc | apply pw_below_drewN | apply below_drew1) | exact HB.out)⟩⟩
        case round =>
          clear H'
          try clear c1
          try clear c2
          try clear p2
          try clear c5
          try clear c5b0
          try clear p2
          obtain ⟨x11_2, x12_2, rfl, rfl, HA, HK2, HO_9, HB⟩ := hrel
          cases gk with
          | zero => exact absurd HA.out (by simp [reefref12_Most.l1])
          | succ k2 =>
            have H := HA.out
            clear HA
            simp only [reefref12_Most.l1] at H
            by_cases c8 : x12_2 < (x9_1.length : Int)
            · rw [if_pos c8] at H
              have c8b0 : decide (x12_2 < (x9_1.length : Int)) = true := decide_eq_true c8
              clear c8
              by_cases c9 : x11_2 = true
              · subst c9
                have H1 : (if 0 ≤ x12_2 then ((reefref12_clash.f l0 (rd x9_1 x12_2) x10_1 a3).bind fun t320 => (reefref12_Most.l1 k2 l0 l1 a2 a3 x9_1 x10_1 (!t320) (wrap64 (x12_2 + 1)))) else (none)) = some r := by rw [if_pos rfl] at H; exact H
                clear H
                have H := H1
                clear H1
                by_cases c10 : 0 ≤ x12_2
                · rw [if_pos c10] at H
                  have c10b0 : decide (0 ≤ x12_2) = true := decide_eq_true c10
                  clear c10
                  replace H := Option.bind_eq_some_iff.mp H
                  obtain ⟨t320, A110, H⟩ := H
                  replace H : (reefref12_Most.l1 k2 l0 l1 a2 a3 x9_1 x10_1 (!t320) (wrap64 (x12_2 + 1))) = some r := H
                  have A11 := Aside0.mk A110
                  clear A110
                  have H' := Aside0.mk H
                  clear H
                  obtain ⟨Ao12, co12, eo12⟩ := Kd.R_slice HO_9.out
                  subst eo12
                  have p319 : 0 ≤ (x12_2 : Int) := of_decide_eq_true (by first | (with_reducible assumption) | assumption)
                  have q319 : x12_2 < (x9_1.length : Int) := of_decide_eq_true (by first | (with_reducible assumption) | assumption)
                  obtain ⟨ad319, e319, hx319_0⟩ := Kd.at_int (Kd.R_reads' HO_9.out).2.2 x12_2 p319 q319
                  cases e319
                  replace p319 := eq_true p319
                  replace q319 := eq_true q319
                  go_wp2_with (first | ((with_reducible refine gate_callee (f := 35) rfl ?_); refine goesL_ (some 39) rfl rfl Try.func35 (by kernel_rfl) rfl #[.slice A0 l0.length c0, .int .i64 (rd x9_1 x12_2), .int .i64 x10_1, .int .i64 a3] rfl (by (try simp only [List.map_toArray, List.map_cons, List.map_nil]); first | done | rfl | (simp only [List.length_drop, List.length_take]; rfl)) ?_; (with_reducible refine (reefref12_clash.calls _ _ l0 (rd x9_1 x12_2) x10_1 a3 t320 _ ?side1 ?side2 A11.out).mono ?_); (case side1 => repeat (first | exact (Kd.C_below HR0.out HB.out) | (with_reducible refine Kd.C_alloc ?_ _) | (with_reducible refine Kd.C_drewN ?_ _) | (with_reducible refine Kd.C_drew ?_))); (case side2 => exact HC0.out); rintro e w' ⟨rfl, ⟨nd, rfl⟩⟩; refine ⟨_, rfl, ?_⟩))
                  go_roundg k2
                  case measure => have := HK1.out; have := HK2.out; omega
                  case rel => exact ⟨(!t320), (wrap64 (x12_2 + 1)), (by first | rfl | (simp; done) | (simp [*]; done)), (by first | rfl | (simp; done) | (simp [*]; done)), H', ⟨by have := HK1.out; have := HK2.out; omega⟩, ⟨by (with_reducible repeat (first | apply Kd.R_alloc | apply Kd.R_drewN | apply Kd.R_drew)); exact HO_9.out⟩, ⟨by repeat (first | (with_reducible first | exact HB.out | apply below_alloc | apply pw_below_drewN | apply below_drew1) | exact HB.out)⟩⟩
                · rw [if_neg c10] at H
                  exact absurd H (by simp)
              · replace c9 := Bool.eq_false_iff.mpr c9
                subst c9
                have H1 : (reefref12_Most.l0 k2 l0 l1 a2 a3 x9_1 (wrap64 (x10_1 + 1))) = some r := by rw [if_neg (show ¬ (false = true) by decide)] at H; exact H
                clear H
                have H := H1
                clear H1
                have H' := Aside0.mk H
                clear H
                obtain ⟨Ao13, co13, eo13⟩ := Kd.R_slice HO_9.out
                subst eo13
                go_wp2
                go_roundg k2
                case measure => have := HK1.out; have := HK2.out; omega
                case rel => exact ⟨(x9_1), (wrap64 (x10_1 + 1)), (by first | rfl | (simp; done) | (simp [*]; done)), H', ⟨by have := HK1.out; have := HK2.out; omega⟩, ⟨by (with_reducible repeat (first | apply Kd.R_alloc | apply Kd.R_drewN | apply Kd.R_drew)); exact HO_9.out⟩, ⟨by repeat (first | (with_reducible first | exact HB.out | apply below_alloc | apply pw_below_drewN | apply below_drew1) | exact HB.out)⟩⟩
            · rw [if_neg c8] at H
              have c8b0 : decide (x12_2 < (x9_1.length : Int)) = false := decide_eq_false c8
              clear c8
              by_cases c14 : x11_2 = true
              · subst c14
                have H1 : (if x9_1.length < 17592186044416 then (reefref12_Most.l0 k2 l0 l1 a2 a3 (x9_1 ++ [x10_1]) (wrap64 (x10_1 + 1))) else (none)) = some r := by rw [if_pos rfl] at H; exact H
                clear H
                have H := H1
                clear H1
                by_cases c15 : x9_1.length < 17592186044416
                · rw [if_pos c15] at H
                  have LMc15 := Aside0.mk c15
                  clear c15
                  obtain ⟨y321, hy321⟩ : ∃ y_ : List Int, y_ = (x9_1 ++ [x10_1]) := ⟨_, rfl⟩
                  replace H : (reefref12_Most.l0 k2 l0 l1 a2 a3 y321 (wrap64 (x10_1 + 1))) = some r := by first | (rw [hy321]; with_reducible exact H) | (have H2_ := (Option.bind_some _ _).symm.trans H; rw [hy321]; with_reducible exact H2_) | (have H2_ := (Option.bind_some _ _).symm.trans H; with_reducible exact H2_) | with_reducible exact H | (rw [hy321]; exact H) | exact H
                  have Ny321 := Aside0.mk hy321
                  clear hy321
                  have H' := Aside0.mk H
                  clear H
                  obtain ⟨Ao16, co16, eo16⟩ := Kd.R_slice HO_9.out
                  subst eo16
                  go_wp2_with (first | ((with_reducible refine gate_builtin (b := .append) (xs := #[.tmp 42, .tmp 44]) rfl ?_); at_builtin; refine Kd.R_append (Kd.int .i64) (w0 := w) w.heap.size rfl (.tmp 42) (.tmp 44) 22 3 (.int .i64 0) 8 rfl Try.underlying22 info3 rfl (by decide) (by omega) (.slice Ao16 x9_1.length co16) x9_1 x10_1 [.int .i64 x10_1] (fun _ => True) (fun _ => False) rfl rfl ?aP (fun _ hk => hk.elim) ?aF ?aO ?aB ?aS ?aL ?_; (case aP => exact rfl); (case aB => exact (by repeat (first | (with_reducible first | exact HB.out | apply below_alloc | apply pw_below_drewN | apply below_drew1) | exact HB.out))); (case aF => exact (fun _ _ => trivial)); (case aO => exact (by (with_reducible repeat (first | apply Kd.R_alloc | apply Kd.R_drewN | apply Kd.R_drew)); exact HO_9.out)); (case aS => exact (below_size (by repeat (first | (with_reducible first | exact HB.out | apply below_alloc | apply pw_below_drewN | apply below_drew1) | exact HB.out)))); (case aL => have := LMc15.out; omega); intro v322 w17 ho hb hg hat; rw [← Ny321.out] at ho; have n0_ := Aside0.mk (hb); have n1_ := Aside0.mk (ho); clear HB; clear HO_9; have HB := n0_; have HO323 := n1_; clear n0_ n1_; clear ho hb hg hat))
                  go_roundg k2
                  case measure => have := HK1.out; have := HK2.out; omega
                  case rel => exact ⟨(y321), (wrap64 (x10_1 + 1)), (by first | rfl | (simp; done) | (simp [*]; done)), H', ⟨by have := HK1.out; have := HK2.out; omega⟩, ⟨by (with_reducible repeat (first | apply Kd.R_alloc | apply Kd.R_drewN | apply Kd.R_drew)); exact HO323.out⟩, ⟨by repeat (first | (with_reducible first | exact HB.out | apply below_alloc | apply pw_below_drewN | apply below_drew1) | exact HB.out)⟩⟩
                · rw [if_neg c15] at H
                  exact absurd H (by simp)
              · replace c14 := Bool.eq_false_iff.mpr c14
                subst c14
                have H1 : (reefref12_Most.l0 k2 l0 l1 a2 a3 x9_1 (wrap64 (x10_1 + 1))) = some r := by rw [if_neg (show ¬ (false = true) by decide)] at H; exact H
                clear H
                have H := H1
                clear H1
                have H' := Aside0.mk H
                clear H
                obtain ⟨Ao18, co18, eo18⟩ := Kd.R_slice HO_9.out
                subst eo18
                go_wp2
                go_roundg k2
                case measure => have := HK1.out; have := HK2.out; omega
                case rel => exact ⟨(x9_1), (wrap64 (x10_1 + 1)), (by first | rfl | (simp; done) | (simp [*]; done)), H', ⟨by have := HK1.out; have := HK2.out; omega⟩, ⟨by (with_reducible repeat (first | apply Kd.R_alloc | apply Kd.R_drewN | apply Kd.R_drew)); exact HO_9.out⟩, ⟨by repeat (first | (with_reducible first | exact HB.out | apply below_alloc | apply pw_below_drewN | apply below_drew1) | exact HB.out)⟩⟩
      · rw [if_neg c5] at H
        have c5b0 : decide (x10_1 < (l0.length : Int)) = false := decide_eq_false c5
        clear c5
        obtain ⟨ji19, hji19⟩ : ∃ j_ : Int, (mx a2 0) = j_ := ⟨_, rfl⟩
        replace H : (some (mn (x9_1.length : Int) (ji19))) = some r := by first | (rw [hji19] at H; exact H) | (simp only [hji19] at H ⊢; exact H)
        have hji19_ : (if a2 < 0 then 0 else a2) = ji19 := hji19
        obtain ⟨ji20, hji20⟩ : ∃ j_ : Int, (mn (x9_1.length : Int) (ji19)) = j_ := ⟨_, rfl⟩
        replace H : (some ji20) = some r := by first | (rw [hji20] at H; exact H) | (simp only [hji20] at H ⊢; exact H)
        have hji20_ : (if (ji19) < (x9_1.length : Int) then (ji19) else (x9_1.length : Int)) = ji20 := hji20
        obtain rfl := Option.some.inj H
        obtain ⟨Ao21, co21, eo21⟩ := Kd.R_slice HO_9.out
        subst eo21
        go_wp2
        go_ret
        exact ⟨by first | rfl | (simp [errW_none, errW_some] <;> rfl) | (simp only [← hji19, ← hji20]; first | rfl | (simp [errW_none, errW_some] <;> rfl)) | (simp [*, errW_none, errW_some] <;> rfl), by repeat (first | (with_reducible first | exact HB.out | apply below_alloc | apply pw_below_drewN | apply below_drew1) | exact HB.out)⟩
end Go.Proofs.Ytbaldkcnipmdjaa.P
namespace Go.Proofs.Ytbaldkcnipmdjaa.P
open Go.RowKit Go.Proofs.YtbaldkcnipmdjaaW.PrintWords Go.Proofs.YtbaldkcnipmdjaaW.PrintLast Go.Proofs.YtbaldkcnipmdjaaW.PrintMore Go.Proofs.YtbaldkcnipmdjaaW.HB
set_option linter.unusedVariables false
set_option linter.unusedSimpArgs false
theorem hostsL_strict (l : List Int) : (hostsL l).Pairwise (· < ·) ∧ ∀ x, x ∈ hostsL l ↔ x ∈ l := by
  have h := ins_all l [] List.Pairwise.nil
  unfold hostsL
  rw [names_law]
  exact ⟨h.1, fun x => by rw [h.2 x]; simp⟩
def domsN (hs ws : List Int) (kind : Int) : Nat → List Int
  | 0 => []
  | n + 1 => if weightS ws n > 0 then domsN hs ws kind n ++ [domS hs kind n] else domsN hs ws kind n
def unlN (hs ws : List Int) (kind : Int) : Nat → List Int
  | 0 => []
  | n + 1 => if weightS ws n > 0 ∧ domS hs kind n ∉ (unlN hs ws kind n).map (domS hs kind) then unlN hs ws kind n ++ [(n : Int)] else unlN hs ws kind n
theorem domsN_len (hs ws : List Int) (kind : Int) : ∀ n, (domsN hs ws kind n).length ≤ n
  | 0 => by simp [domsN]
  | n + 1 => by
    have := domsN_len hs ws kind n
    unfold domsN
    split
    · rw [List.length_append]; simp; omega
    · omega
theorem unlN_in (hs ws : List Int) (kind : Int) : ∀ n, (unlN hs ws kind n).length ≤ n ∧ ∀ v ∈ unlN hs ws kind n, 0 ≤ v ∧ v < n
  | 0 => by simp [unlN]
  | n + 1 => by
    have ih := unlN_in hs ws kind n
    unfold unlN
    split
    · refine ⟨by rw [List.length_append]; simp; omega, fun v hv => ?_⟩
      rcases List.mem_append.1 hv with hv | hv
      · have := ih.2 v hv; exact ⟨this.1, by omega⟩
      · simp at hv; subst hv; exact ⟨by omega, by omega⟩
    · exact ⟨by omega, fun v hv => by have := ih.2 v hv; exact ⟨this.1, by omega⟩⟩
theorem unlN_doms (hs ws : List Int) (kind : Int) : ∀ n, ((unlN hs ws kind n).map (domS hs kind)).Nodup ∧ ∀ x, x ∈ (unlN hs ws kind n).map (domS hs kind) ↔ x ∈ domsN hs ws kind n
  | 0 => by simp [unlN, domsN]
  | n + 1 => by
    have ih := unlN_doms hs ws kind n
    unfold unlN domsN
    by_cases hw : weightS ws n > 0
    · by_cases hm : domS hs kind n ∈ (unlN hs ws kind n).map (domS hs kind)
      · rw [if_neg (fun h => h.2 hm), if_pos hw]
        refine ⟨ih.1, fun x => ?_⟩
        rw [List.mem_append, ← ih.2 x, List.mem_singleton]
        exact ⟨Or.inl, fun h => h.elim id fun h => h ▸ hm⟩
      · rw [if_pos ⟨hw, hm⟩, if_pos hw, List.map_append]
        refine ⟨List.nodup_append.2 ⟨ih.1, by simp, fun a ha b hb => ?_⟩, fun x => ?_⟩
        · simp at hb; subst hb; exact fun h => hm (h ▸ ha)
        · rw [List.mem_append, List.mem_append, ih.2 x]; simp
    · rw [if_neg (fun h => hw h.1), if_neg hw]
      exact ih
theorem most_len (hs ws : List Int) (kind : Int) (n : Nat) : (hostsL (domsN hs ws kind n)).length = (unlN hs ws kind n).length := by
  have h1 := hostsL_strict (domsN hs ws kind n)
  have h2 := unlN_doms hs ws kind n
  have hnd : (hostsL (domsN hs ws kind n)).Nodup := h1.1.imp fun h => by omega
  have hp : (hostsL (domsN hs ws kind n)).Perm ((unlN hs ws kind n).map (domS hs kind)) := (List.perm_ext_iff_of_nodup hnd h2.1).2 fun x => by rw [h1.2 x, h2.2 x]
  rw [hp.length_eq, List.length_map]
def mostS (hs ws : List Int) (size kind : Int) : Int := mn ((unlN hs ws kind hs.length).length : Int) (mx size 0)
theorem most_l0 (hs ws : List Int) (size kind : Int) (hl : hs.length ≤ 1000) : ∀ (d k i : Nat), hs.length = i + d → d + 10 ≤ k → rule_Most.l0 k hs ws size kind (domsN hs ws kind i) hs.length i = some (mostS hs ws size kind) := by
  intro d
  induction d with
  | zero =>
    intro k i hi hk
    obtain ⟨k, rfl⟩ : ∃ k', k = k' + 1 := ⟨k - 1, by omega⟩
    have hn := domsN_len hs ws kind i
    have hm := most_len hs ws kind i
    simp only [rule_Most.l0]
    rw [if_neg (by omega), show rule_Hosts.f (domsN hs ws kind i) = some (hostsL (domsN hs ws kind i)) from if_pos (by omega), Option.bind_some, hm]
    unfold mostS
    rw [show i = hs.length from by omega]
    congr 1
    unfold mn mx
    repeat' split
    all_goals omega
  | succ d ih =>
    intro k i hi hk
    obtain ⟨k, rfl⟩ : ∃ k', k = k' + 1 := ⟨k - 1, by omega⟩
    have hw : wrap64 ((i : Int) + 1) = ((i + 1 : Nat) : Int) := by unfold wrap64; omega
    have hn := domsN_len hs ws kind i
    have hrec := ih k (i + 1) (by omega) (by omega)
    have hdef : domsN hs ws kind (i + 1) = if weightS ws i > 0 then domsN hs ws kind i ++ [domS hs kind i] else domsN hs ws kind i := rfl
    simp only [rule_Most.l0]
    rw [if_pos (by omega), weight_eq ws i (by omega), Option.bind_some, hw]
    by_cases h : weightS ws (i : Int) > 0
    · rw [if_pos h] at hdef
      rw [if_pos h, dom_eq hs kind i (by omega) (by omega), Option.bind_some, if_pos (by omega), ← hdef, hrec]
    · rw [if_neg h] at hdef
      rw [if_neg h, ← hdef, hrec]
theorem most_eq (hs ws : List Int) (size kind : Int) (hl : hs.length ≤ 1000) (K : Nat) (hK : 2000 ≤ K) : rule_Most.f K hs ws size kind = some (mostS hs ws size kind) := by
  unfold rule_Most.f
  exact most_l0 hs ws size kind hl hs.length K 0 (by omega) (by omega)
theorem rmost_l1 (hs ws : List Int) (size kind : Int) (out : List Int) (r : Nat) (hr : r < hs.length) (hl : hs.length ≤ 1000) (ho : out.length ≤ 1000) (hio : inR hs out) (R : Option Int) (k0 : Nat) :
    ∀ (d k i : Nat) (ok : Bool), out.length = i + d → k0 + d + 1 ≤ k →
      ((ok = true ∧ domS hs kind r ∉ (out.drop i).map (domS hs kind)) → ∀ K, k0 ≤ K → reefref12_Most.l0 K hs ws size kind (out ++ [(r : Int)]) ((r + 1 : Nat) : Int) = R) →
      (¬ (ok = true ∧ domS hs kind r ∉ (out.drop i).map (domS hs kind)) → ∀ K, k0 ≤ K → reefref12_Most.l0 K hs ws size kind out ((r + 1 : Nat) : Int) = R) →
      reefref12_Most.l1 k hs ws size kind out r ok i = R := by
  have hwr : wrap64 ((r : Int) + 1) = ((r + 1 : Nat) : Int) := by unfold wrap64; omega
  intro d
  induction d with
  | zero =>
    intro k i ok hi hk hyes hno
    obtain ⟨k, rfl⟩ : ∃ k', k = k' + 1 := ⟨k - 1, by omega⟩
    have hd : out.drop i = [] := List.drop_eq_nil_of_le (by omega)
    simp only [reefref12_Most.l1]
    rw [if_neg (by omega), hwr]
    by_cases hok : ok = true
    · rw [if_pos hok, if_pos (by omega)]
      exact hyes ⟨hok, by rw [hd]; simp⟩ k (by omega)
    · rw [if_neg hok]
      exact hno (fun h => hok h.1) k (by omega)
  | succ d ih =>
    intro k i ok hi hk hyes hno
    obtain ⟨k, rfl⟩ : ∃ k', k = k' + 1 := ⟨k - 1, by omega⟩
    have hlt : i < out.length := by omega
    have hw : wrap64 ((i : Int) + 1) = ((i + 1 : Nat) : Int) := by unfold wrap64; omega
    have hd : out.drop i = out[i] :: out.drop (i + 1) := List.drop_eq_getElem_cons hlt
    simp only [reefref12_Most.l1]
    rw [if_pos (by omega), hwr]
    by_cases hok : ok = true
    · rw [if_pos hok, if_pos (by omega), rd_I out i hlt, clash_eq hs _ _ kind (hio _ (List.getElem_mem hlt)) ⟨by omega, by omega⟩, Option.bind_some, hw]
      have hiff : ((!decide (domS hs kind out[i] = domS hs kind r)) = true ∧ domS hs kind r ∉ (out.drop (i + 1)).map (domS hs kind)) ↔ (ok = true ∧ domS hs kind r ∉ (out.drop i).map (domS hs kind)) := by
        rw [hd, List.map_cons, Bool.not_eq_true', decide_eq_false_iff_not, List.mem_cons]
        constructor
        · rintro ⟨h1, h2⟩
          exact ⟨hok, fun hm => hm.elim (fun h => h1 h.symm) h2⟩
        · rintro ⟨_, h2⟩
          exact ⟨fun h => h2 (Or.inl h.symm), fun h => h2 (Or.inr h)⟩
      exact ih k (i + 1) _ (by omega) (by omega) (fun h => hyes (hiff.1 h)) (fun h => hno (fun h' => h (hiff.2 h')))
    · rw [if_neg hok]
      exact hno (fun h => hok h.1) k (by omega)
theorem rmost_l0 (hs ws : List Int) (size kind : Int) (hl : hs.length ≤ 1000) : ∀ (d k i : Nat), hs.length = i + d → d * 1010 + 2 ≤ k → reefref12_Most.l0 k hs ws size kind (unlN hs ws kind i) i = some (mostS hs ws size kind) := by
  intro d
  induction d with
  | zero =>
    intro k i hi hk
    obtain ⟨k, rfl⟩ : ∃ k', k = k' + 1 := ⟨k - 1, by omega⟩
    simp only [reefref12_Most.l0]
    rw [if_neg (by omega)]
    unfold mostS
    rw [show i = hs.length from by omega]
  | succ d ih =>
    intro k i hi hk
    have hn := unlN_in hs ws kind i
    have hk2 : d * 1010 + 2 + (unlN hs ws kind i).length + 1 ≤ k - 1 ∧ 1 ≤ k := by
      clear ih
      rw [Nat.succ_mul] at hk
      generalize d * 1010 = M at *
      have := hn.1
      clear hn
      omega
    clear hk
    obtain ⟨k, rfl⟩ : ∃ k', k = k' + 1 := ⟨k - 1, by omega⟩
    have hdef : unlN hs ws kind (i + 1) = if weightS ws i > 0 ∧ domS hs kind i ∉ (unlN hs ws kind i).map (domS hs kind) then unlN hs ws kind i ++ [(i : Int)] else unlN hs ws kind i := rfl
    simp only [reefref12_Most.l0]
    rw [if_pos (by omega), rweight_eq ws i (by omega), Option.bind_some]
    refine rmost_l1 hs ws size kind (unlN hs ws kind i) i (by omega) hl (by omega) (fun v hv => by have := hn.2 v hv; exact ⟨this.1, by omega⟩) _ (d * 1010 + 2) (unlN hs ws kind i).length k 0 _ (by omega) (by omega) ?_ ?_
    · rintro ⟨h1, h2⟩ K hK
      rw [List.drop_zero] at h2
      rw [if_pos ⟨of_decide_eq_true h1, h2⟩] at hdef
      rw [← hdef]
      exact ih K (i + 1) (by omega) hK
    · intro h K hK
      rw [List.drop_zero] at h
      rw [if_neg (fun h' => h ⟨decide_eq_true h'.1, h'.2⟩)] at hdef
      rw [← hdef]
      exact ih K (i + 1) (by omega) hK
theorem rmost_eq (hs ws : List Int) (size kind : Int) (hl : hs.length ≤ 1000) (K : Nat) (hK : 1020000 ≤ K) : reefref12_Most.f K hs ws size kind = some (mostS hs ws size kind) := by
  unfold reefref12_Most.f
  have hb : hs.length * 1010 + 2 ≤ K := Nat.le_trans (Nat.add_le_add_right (Nat.mul_le_mul_right 1010 hl) 2) (Nat.le_trans (Nat.le_of_ble_eq_true rfl) hK)
  exact rmost_l0 hs ws size kind hl hs.length K 0 (by omega) hb
end Go.Proofs.Ytbaldkcnipmdjaa.P
namespace Go.Proofs.Ytbaldkcnipmdjaa.P
open Go.RowKit Go.Proofs.YtbaldkcnipmdjaaW.PrintWords Go.Proofs.YtbaldkcnipmdjaaW.PrintLast Go.Proofs.YtbaldkcnipmdjaaW.PrintMore Go.Proofs.YtbaldkcnipmdjaaW.HB
set_option linter.unusedVariables false
set_option linter.unusedSimpArgs false
attribute [local go_sem] max2_int min2_int max_two min_two max_three min_three max_four min_four
theorem few_calls (A : Option Addr) (c m n : Nat) (w : World) (hm : m ≤ c) :
    Calls Try.prog 9 #[.slice A m c, .int .i64 n] w fun e w' => e = .returned (.slice A (min m n) c) ∧ w' = w := by
  by_cases hnm : n < m
  · have hk : min m n = n := by omega
    rw [hk]
    have hkc : n ≤ c := by omega
    have h0 : (0 : Int) ≤ n := Int.natCast_nonneg n
    have h1 : (n : Int) ≤ c := Int.ofNat_le.2 hkc
    have h2 : (n : Int) < (m : Int) := Int.ofNat_lt.2 hnm
    go_enter Try.func9, Try.ntmps9
    go_wp2
    go_ret
    exact ⟨rfl, rfl⟩
  · have hk : min m n = m := by omega
    rw [hk]
    have h1 : (m : Int) ≤ c := Int.ofNat_le.2 hm
    have h2 : ¬ (n : Int) < (m : Int) := fun h => hnm (Int.ofNat_lt.1 h)
    go_enter Try.func9, Try.ntmps9
    go_wp2
    go_ret
    exact ⟨rfl, rfl⟩
theorem C_few {α : Type} {d : Kd α} {w : World} {A : Option Addr} {l : List α} (n : Nat) (h : Kd.C d w A l.length l) : Kd.C d w A (l.take n).length (l.take n) := by
  by_cases hn : n ≤ l.length
  · exact Kd.C_take h hn
  · rw [List.take_of_length_le (by omega)]; exact h
theorem few_len {α : Type} (l : List α) (n : Nat) : min l.length n = (l.take n).length := by rw [List.length_take, Nat.min_comm]
theorem few_at (A : Option Addr) (c : Nat) (l : List Int) (n : Nat) (w : World) (hm : l.length ≤ c) :
    Calls Try.prog 9 #[.slice A l.length c, .int .i64 n] w fun e w' => e = .returned (.slice A (l.take n).length c) ∧ w' = w := by
  rw [← few_len]; exact few_calls A c l.length n w hm
end Go.Proofs.Ytbaldkcnipmdjaa.P
namespace Go.Proofs.Ytbaldkcnipmdjaa.P
open Go.RowKit Go.Proofs.YtbaldkcnipmdjaaW.PrintWords Go.Proofs.YtbaldkcnipmdjaaW.PrintLast Go.Proofs.YtbaldkcnipmdjaaW.PrintMore
attribute [local go_sem] max2_int min2_int max_two min_two max_three min_three max_four min_four
set_option linter.unusedVariables false
set_option linter.unusedSimpArgs false
def reeflaw12_ints.l0 : Nat → List Int → List Int → Int → Option (Bool)
  | 0, _, _, _ => none
  | k + 1, x0, x1, x5 => if x5 < (x0.length : Int) then (if 0 ≤ x5 then (if x5 < (x1.length : Int) then (if (rd x0 x5) = (rd x1 x5) then (reeflaw12_ints.l0 k x0 x1 (wrap64 (x5 + 1))) else (some false)) else (none)) else (none)) else (some true)
def reeflaw12_ints.f (k : Nat) (l0 : List Int) (l1 : List Int) : Option (Bool) := if (l0.length : Int) = (l1.length : Int) then (reeflaw12_ints.l0 k l0 l1 0) else (some false)
set_option maxHeartbeats 8000000 in
set_option maxRecDepth 100000 in
theorem reeflaw12_ints.calls (k : Nat) (A0 : Option Addr) (c0 : Nat) (l0 : List Int) (A1 : Option Addr) (c1 : Nat) (l1 : List Int) (r : Bool) (w : World) (hr0 : Kd.C (Kd.int .i64) w A0 l0.length l0) (hc0 : l0.length ≤ c0) (hr1 : Kd.C (Kd.int .i64) w A1 l1.length l1) (hc1 : l1.length ≤ c1) (h : reeflaw12_ints.f k l0 l1 = some r) :
    Calls Try.prog 12 #[.slice A0 l0.length c0, .slice A1 l1.length c1] w fun e w' => e = .returned (.bool r) ∧ Drawn0 w w' := by
  have HR0 := Aside0.mk hr0
  have HC0 := Aside0.mk hc0
  clear hr0 hc0
  have HR1 := Aside0.mk hr1
  have HC1 := Aside0.mk hc1
  clear hr1 hc1
  have H : (if (l0.length : Int) = (l1.length : Int) then (reeflaw12_ints.l0 k l0 l1 0) else (some false)) = some r := h
  clear h
  by_cases c3 : (l0.length : Int) = (l1.length : Int)
  · rw [if_pos c3] at H
    have c3b0 : ((l0.length : Int) == (l1.length : Int)) = true := beq_iff_eq.mpr c3
    have c3b1 : ((l0.length : Int) != (l1.length : Int)) = false := bne_eq_false_iff_eq.mpr c3
    have c3b2 : (l0.length == l1.length) = true := by first | simpa using c3 | (simp at c3 ⊢; omega)
    clear c3
    have H' := Aside0.mk H
    clear H
    go_enter Try.func12, Try.ntmps12
    go_wp2
    repeat (go_quiet (fail); try go_wp2)
    go_loopg [5] k (fun kq v5 w' => ∃ (x5_1 : Int), v5 = .int .i64 x5_1 ∧ Aside0 (reeflaw12_ints.l0 kq l0 l1 x5_1 = some r) ∧ Aside0 (kq ≤ k) ∧ Drawn0 w w')
    case atStart => exact ⟨(0), (by first | rfl | (simp; done) | (simp [*]; done)), H', ⟨Nat.le_refl _⟩, by repeat (first | exact Drawn0.refl _ | apply Drawn0.step)⟩
    case round =>
      clear H'
      try clear c1
      try clear p2
      try clear c3
      try clear c3b0
      try clear c3b1
      try clear c3b2
      obtain ⟨x5_1, rfl, HA, HK1, ⟨m1, rfl⟩⟩ := hrel
      cases gk with
      | zero => exact absurd HA.out (by simp [reeflaw12_ints.l0])
      | succ k1 =>
        have H := HA.out
        clear HA
        simp only [reeflaw12_ints.l0] at H
        by_cases c4 : x5_1 < (l0.length : Int)
        · rw [if_pos c4] at H
          have c4b0 : decide (x5_1 < (l0.length : Int)) = true := decide_eq_true c4
          clear c4
          by_cases c5 : 0 ≤ x5_1
          · rw [if_pos c5] at H
            have c5b0 : decide (0 ≤ x5_1) = true := decide_eq_true c5
            clear c5
            by_cases c6 : x5_1 < (l1.length : Int)
            · rw [if_pos c6] at H
              have c6b0 : decide (x5_1 < (l1.length : Int)) = true := decide_eq_true c6
              clear c6
              by_cases c7 : (rd l0 x5_1) = (rd l1 x5_1)
              · rw [if_pos c7] at H
                have c7b0 : ((rd l0 x5_1) == (rd l1 x5_1)) = true := beq_iff_eq.mpr c7
                have c7b1 : ((rd l0 x5_1) != (rd l1 x5_1)) = false := bne_eq_false_iff_eq.mpr c7
                clear c7
                have H' := Aside0.mk H
                clear H
                have p158 : 0 ≤ (x5_1 : Int) := of_decide_eq_true (by first | (with_reducible assumption) | assumption)
                have q158 : x5_1 < (l0.length : Int) := of_decide_eq_true (by first | (with_reducible assumption) | assumption)
                obtain ⟨ad158, e158, hx158_0⟩ := Kd.at_int HR0.out x5_1 p158 q158
                cases e158
                replace p158 := eq_true p158
                replace q158 := eq_true q158
                have p159 : 0 ≤ (x5_1 : Int) := of_decide_eq_true (by first | (with_reducible assumption) | assumption)
                have q159 : x5_1 < (l1.length : Int) := of_decide_eq_true (by first | (with_reducible assumption) | assumption)
                obtain ⟨ad159, e159, hx159_0⟩ := Kd.at_int HR1.out x5_1 p159 q159
                cases e159
                replace p159 := eq_true p159
                replace q159 := eq_true q159
                go_wp2
                repeat (go_quiet (fail); try go_wp2)
                go_roundg k1
                case measure => have := HK1.out; omega
                case rel => exact ⟨(wrap64 (x5_1 + 1)), (by first | rfl | (simp; done) | (simp [*]; done)), H', ⟨by have := HK1.out; omega⟩, by repeat (first | exact Drawn0.refl _ | apply Drawn0.step)⟩
              · rw [if_neg c7] at H
                have c7b0 : ((rd l0 x5_1) == (rd l1 x5_1)) = false := beq_eq_false_iff_ne.mpr c7
                have c7b1 : ((rd l0 x5_1) != (rd l1 x5_1)) = true := bne_iff_ne.mpr c7
                obtain rfl := Option.some.inj H
                have p158 : 0 ≤ (x5_1 : Int) := of_decide_eq_true (by first | (with_reducible assumption) | assumption)
                have q158 : x5_1 < (l0.length : Int) := of_decide_eq_true (by first | (with_reducible assumption) | assumption)
                obtain ⟨ad158, e158, hx158_0⟩ := Kd.at_int HR0.out x5_1 p158 q158
                cases e158
                replace p158 := eq_true p158
                replace q158 := eq_true q158
                have p159 : 0 ≤ (x5_1 : Int) := of_decide_eq_true (by first | (with_reducible assumption) | assumption)
                have q159 : x5_1 < (l1.length : Int) := of_decide_eq_true (by first | (with_reducible assumption) | assumption)
                obtain ⟨ad159, e159, hx159_0⟩ := Kd.at_int HR1.out x5_1 p159 q159
                cases e159
                replace p159 := eq_true p159
                replace q159 := eq_true q159
                go_wp2
                repeat (go_quiet (fail); try go_wp2)
                go_ret
                exact ⟨by first | rfl | (simp; done) | (simp [*]; done), by repeat (first | exact Drawn0.refl _ | apply Drawn0.step)⟩
            · rw [if_neg c6] at H
              exact absurd H (by simp)
          · rw [if_neg c5] at H
            exact absurd H (by simp)
        · rw [if_neg c4] at H
          have c4b0 : decide (x5_1 < (l0.length : Int)) = false := decide_eq_false c4
          clear c4
          obtain rfl := Option.some.inj H
          go_wp2
          repeat (go_quiet (fail); try go_wp2)
          go_ret
          exact ⟨by first | rfl | (simp; done) | (simp [*]; done), by repeat (first | exact Drawn0.refl _ | apply Drawn0.step)⟩
  · rw [if_neg c3] at H
    have c3b0 : ((l0.length : Int) == (l1.length : Int)) = false := beq_eq_false_iff_ne.mpr c3
    have c3b1 : ((l0.length : Int) != (l1.length : Int)) = true := bne_iff_ne.mpr c3
    have c3b2 : (l0.length == l1.length) = false := by first | simpa using c3 | (simp at c3 ⊢; omega)
    obtain rfl := Option.some.inj H
    go_enter Try.func12, Try.ntmps12
    go_wp2
    repeat (go_quiet (fail); try go_wp2)
    go_ret
    exact ⟨by first | rfl | (simp; done) | (simp [*]; done), by repeat (first | exact Drawn0.refl _ | apply Drawn0.step)⟩
end Go.Proofs.Ytbaldkcnipmdjaa.P
namespace Go.Proofs.Ytbaldkcnipmdjaa.P
open Go.RowKit Go.Proofs.YtbaldkcnipmdjaaW.PrintWords Go.Proofs.YtbaldkcnipmdjaaW.PrintLast Go.Proofs.YtbaldkcnipmdjaaW.PrintMore Go.Proofs.YtbaldkcnipmdjaaW.HB
set_option linter.unusedVariables false
set_option linter.unusedSimpArgs false
theorem C_litT (T : TypeId) (w : World) (xs : List Int) (hl : xs.length ≤ 1000) : Kd.C (Kd.int .i64) (w.alloc (.cells (xs.map (Value.int .i64)).toArray T)) (some ⟨w.heap.size, 0, none⟩) xs.length xs := by
  have h := World.ownsRow_lit (e := T) (base := 0) (size := 1) w (xs.map (Value.int .i64)).toArray xs.length (Nat.zero_le _) (by simp [maxLen]; omega) (by simp)
  have h2 : (w.alloc (.cells (xs.map (Value.int .i64)).toArray T)).ownsRow 0 T 1 (.slice (some ⟨w.heap.size, 0, none⟩) xs.length xs.length) xs.length (xs.map (Value.int .i64)) := by simpa using h
  exact (Kd.R_reads' (R_of_own (ok := fun _ => True) (fun _ _ => trivial) h2)).2.2
theorem lit_a (T : TypeId) (w : World) : Kd.C (Kd.int .i64) (w.alloc (.cells #[.int .i64 0, .int .i64 0] T)) (some ⟨w.heap.size, 0, none⟩) 2 [0, 0] := C_litT T w [0, 0] (by decide)
theorem lit_b (T : TypeId) (w : World) : Kd.C (Kd.int .i64) (w.alloc (.cells #[.int .i64 65536, .int .i64 65536] T)) (some ⟨w.heap.size, 0, none⟩) 2 [65536, 65536] := C_litT T w [65536, 65536] (by decide)
theorem lit_c (T : TypeId) (w : World) : Kd.C (Kd.int .i64) (w.alloc (.cells #[.int .i64 0, .int .i64 1] T)) (some ⟨w.heap.size, 0, none⟩) 2 [0, 1] := C_litT T w [0, 1] (by decide)
theorem lit_d (T : TypeId) (w : World) : Kd.C (Kd.int .i64) (w.alloc (.cells #[.int .i64 0, .int .i64 0, .int .i64 1, .int .i64 1] T)) (some ⟨w.heap.size, 0, none⟩) 4 [0, 0, 1, 1] := C_litT T w [0, 0, 1, 1] (by decide)
theorem lit_e (T : TypeId) (w : World) : Kd.C (Kd.int .i64) (w.alloc (.cells #[.int .i64 1, .int .i64 0, .int .i64 0, .int .i64 0] T)) (some ⟨w.heap.size, 0, none⟩) 4 [1, 0, 0, 0] := C_litT T w [1, 0, 0, 0] (by decide)
theorem lit_f (T : TypeId) (w : World) : Kd.C (Kd.int .i64) (w.alloc (.cells #[.int .i64 0] T)) (some ⟨w.heap.size, 0, none⟩) 1 [0] := C_litT T w [0] (by decide)
theorem lit_g (T : TypeId) (w : World) : Kd.C (Kd.int .i64) (w.alloc (.cells #[.int .i64 3, .int .i64 1, .int .i64 3] T)) (some ⟨w.heap.size, 0, none⟩) 3 [3, 1, 3] := C_litT T w [3, 1, 3] (by decide)
theorem lit_h (T : TypeId) (w : World) : Kd.C (Kd.int .i64) (w.alloc (.cells #[.int .i64 1, .int .i64 3] T)) (some ⟨w.heap.size, 0, none⟩) 2 [1, 3] := C_litT T w [1, 3] (by decide)
theorem alloc_sz (w : World) (o : Obj) : (w.alloc o).heap.size = w.heap.size + 1 := Array.size_push _
theorem aw_p0 : rule_Place.f [0, 0] [65536, 65536] 7 2 2 = some (plS [0, 0] [65536, 65536] 7 2 2) := if_pos (by decide)
theorem aw_p1 : rule_Place.f [0, 1] [65536, 65536] 7 1 1 = some (plS [0, 1] [65536, 65536] 7 1 1) := if_pos (by decide)
theorem aw_p2 : rule_Place.f [0] [] 1 1 1 = some [] := (if_pos (by decide)).trans (by rw [aw_n])
theorem aw_hf : rule_Hosts.f [3, 1, 3] = some [1, 3] := by unfold rule_Hosts.f; rw [if_pos (by decide), aw_h]
theorem aw_i : reeflaw12_ints.f 5 [1, 3] [1, 3] = some true := by kernel_rfl
def reeflaw12_awake.f : Option Bool := some true
theorem aw_c0 (T U : TypeId) (w : World) : Calls Try.prog 15 #[.slice (some ⟨w.heap.size, 0, none⟩) 2 2, .slice (some ⟨w.heap.size + 1, 0, none⟩) 2 2, .int .u32 7, .int .i64 2, .int .i64 2] ((w.alloc (.cells #[.int .i64 0, .int .i64 0] T)).alloc (.cells #[.int .i64 65536, .int .i64 65536] U)) fun e w' => ∃ A c, e = .returned (.slice A 1 c) ∧ Below w.heap.size w w' := by
  have h0 := aw_0
  have hp := aw_p0
  generalize plS [0, 0] [65536, 65536] 7 2 2 = p at *
  have h := rule_Place.calls _ 2 [0, 0] _ 2 [65536, 65536] 7 2 2 p _ (Kd.C_alloc (lit_a T w) _) (by decide) (alloc_sz w _ ▸ lit_b U _) (by decide) hp
  refine h.mono ?_
  rintro e w1 ⟨v, rfl, hR, hW⟩
  obtain ⟨A, c, rfl⟩ := Kd.R_slice hR
  exact ⟨A, c, by rw [h0], below_step (below_alloc (below_alloc (Below.refl w.heap.size w) _) _) hW⟩
theorem aw_c1 (T U : TypeId) (w : World) : Calls Try.prog 15 #[.slice (some ⟨w.heap.size, 0, none⟩) 2 2, .slice (some ⟨w.heap.size + 1, 0, none⟩) 2 2, .int .u32 7, .int .i64 1, .int .i64 1] ((w.alloc (.cells #[.int .i64 0, .int .i64 1] T)).alloc (.cells #[.int .i64 65536, .int .i64 65536] U)) fun e w' => ∃ A c, e = .returned (.slice A 1 c) ∧ Below w.heap.size w w' := by
  have h0 := aw_1
  have hp := aw_p1
  generalize plS [0, 1] [65536, 65536] 7 1 1 = p at *
  have h := rule_Place.calls _ 2 [0, 1] _ 2 [65536, 65536] 7 1 1 p _ (Kd.C_alloc (lit_c T w) _) (by decide) (alloc_sz w _ ▸ lit_b U _) (by decide) hp
  refine h.mono ?_
  rintro e w1 ⟨v, rfl, hR, hW⟩
  obtain ⟨A, c, rfl⟩ := Kd.R_slice hR
  exact ⟨A, c, by rw [h0], below_step (below_alloc (below_alloc (Below.refl w.heap.size w) _) _) hW⟩
theorem aw_c2 (T U : TypeId) (w : World) : Calls Try.prog 20 #[.slice (some ⟨w.heap.size, 0, none⟩) 4 4, .slice (some ⟨w.heap.size + 1, 0, none⟩) 4 4, .int .i64 2, .int .i64 1] ((w.alloc (.cells #[.int .i64 0, .int .i64 0, .int .i64 1, .int .i64 1] T)).alloc (.cells #[.int .i64 1, .int .i64 0, .int .i64 0, .int .i64 0] U)) fun e w' => e = .returned (.int .i64 1) ∧ Below w.heap.size w w' := by
  have h := rule_Most.calls 20 _ 4 [0, 0, 1, 1] _ 4 [1, 0, 0, 0] 2 1 1 _ (Kd.C_alloc (lit_d T w) _) (by decide) (alloc_sz w _ ▸ lit_e U _) (by decide) aw_m
  refine h.mono ?_
  rintro e w1 ⟨rfl, hW⟩
  exact ⟨rfl, below_step (below_alloc (below_alloc (Below.refl w.heap.size w) _) _) hW⟩
theorem aw_c3 (T : TypeId) (w : World) : Calls Try.prog 15 #[.slice (some ⟨w.heap.size, 0, none⟩) 1 1, .slice none 0 0, .int .u32 1, .int .i64 1, .int .i64 1] (w.alloc (.cells #[.int .i64 0] T)) fun e w' => ∃ A c, e = .returned (.slice A 0 c) ∧ Below w.heap.size w w' := by
  have h := rule_Place.calls _ 1 [0] _ 0 [] 1 1 1 [] _ (lit_f T w) (by decide) (Kd.C_nil _ _) (by decide) aw_p2
  refine h.mono ?_
  rintro e w1 ⟨v, rfl, hR, hW⟩
  obtain ⟨A, c, rfl⟩ := Kd.R_slice hR
  exact ⟨A, c, rfl, below_step (below_alloc (Below.refl w.heap.size w) _) hW⟩
theorem aw_c4 (T : TypeId) (w : World) : Calls Try.prog 13 #[.slice (some ⟨w.heap.size, 0, none⟩) 3 3] (w.alloc (.cells #[.int .i64 3, .int .i64 1, .int .i64 3] T)) fun e w' => ∃ A c, e = .returned (.slice A 2 c) ∧ 2 ≤ c ∧ Kd.C (Kd.int .i64) w' A 2 [1, 3] ∧ Below w.heap.size w w' := by
  have h := rule_Hosts.calls _ 3 [3, 1, 3] [1, 3] _ (lit_g T w) (by decide) aw_hf
  refine h.mono ?_
  rintro e w1 ⟨v, rfl, hR, hW⟩
  obtain ⟨A, c, rfl⟩ := Kd.R_slice hR
  exact ⟨A, c, rfl, (Kd.R_reads' hR).2.1, (Kd.R_reads' hR).2.2, below_step (below_alloc (Below.refl w.heap.size w) _) hW⟩
theorem aw_c5 (T : TypeId) (A : Option Addr) (c : Nat) (hc : 2 ≤ c) (w : World) (hC : Kd.C (Kd.int .i64) w A 2 [1, 3]) : Calls Try.prog 12 #[.slice A 2 c, .slice (some ⟨w.heap.size, 0, none⟩) 2 2] (w.alloc (.cells #[.int .i64 1, .int .i64 3] T)) fun e w' => e = .returned (.bool true) ∧ Below w.heap.size w w' := by
  have h := reeflaw12_ints.calls 5 A c [1, 3] _ 2 [1, 3] true _ (Kd.C_alloc hC _) hc (lit_h T w) (by decide) aw_i
  refine h.mono ?_
  rintro e w1 ⟨rfl, hW⟩
  exact ⟨rfl, below_step (below_alloc (Below.refl w.heap.size w) _) hW.below⟩
end Go.Proofs.Ytbaldkcnipmdjaa.P
namespace Go.Proofs.Ytbaldkcnipmdjaa.P
open Go.RowKit Go.Proofs.YtbaldkcnipmdjaaW.PrintWords Go.Proofs.YtbaldkcnipmdjaaW.PrintLast Go.Proofs.YtbaldkcnipmdjaaW.PrintMore Go.Proofs.YtbaldkcnipmdjaaW.HB
set_option linter.unusedVariables false
set_option linter.unusedSimpArgs false
set_option maxRecDepth 100000 in
set_option maxHeartbeats 1000000 in
theorem reeflaw12_awake.calls (r : Bool) (w : World) (h : reeflaw12_awake.f = some r) : Calls Try.prog 17 #[] w fun e w' => e = .returned (.bool r) ∧ Below w.heap.size w w' := by
  obtain rfl := Option.some.inj h
  clear h
  have B0 := Below.refl w.heap.size w
  go_enter Try.func17, Try.ntmps17
  go_wp2_with (first
    | (go_at_call 15; have H := B0; clear B0; refine (aw_c0 _ _ _).mono ?_; rintro e w1 ⟨Aa, ca, rfl, hW⟩; have B1 := below_step H hW; clear H hW)
    | (go_at_call 15; have H := B1; clear B1; refine (aw_c1 _ _ _).mono ?_; rintro e w2 ⟨Ab, cb, rfl, hW⟩; have B2 := below_step H hW; clear H hW)
    | (go_at_call 20; have H := B2; clear B2; refine (aw_c2 _ _ _).mono ?_; rintro e w3 ⟨rfl, hW⟩; have B3 := below_step H hW; clear H hW)
    | (go_at_call 15; have H := B3; clear B3; refine (aw_c3 _ _).mono ?_; rintro e w4 ⟨Ac, cc, rfl, hW⟩; have B4 := below_step H hW; clear H hW)
    | (go_at_call 13; have H := B4; clear B4; refine (aw_c4 _ _).mono ?_; rintro e w5 ⟨Ad, cd, rfl, K5, C5, hW⟩; have B5 := below_step H hW; clear H hW)
    | (go_at_call 12; have H := B5; clear B5; refine (aw_c5 _ _ _ K5 _ C5).mono ?_; rintro e w6 ⟨rfl, hW⟩; have B6 := below_step H hW; clear H hW))
  go_ret
  exact ⟨rfl, B6⟩
end Go.Proofs.Ytbaldkcnipmdjaa.P
namespace Go.Proofs.Ytbaldkcnipmdjaa.P
open Go.RowKit Go.Proofs.YtbaldkcnipmdjaaW.PrintWords Go.Proofs.YtbaldkcnipmdjaaW.PrintLast Go.Proofs.YtbaldkcnipmdjaaW.PrintMore Go.Proofs.YtbaldkcnipmdjaaW.HB
set_option linter.unusedVariables false
set_option linter.unusedSimpArgs false
set_option maxRecDepth 100000 in
set_option maxHeartbeats 4000000 in
theorem reeflaw12_RuleTells.calls (A0 : Option Addr) (c0 : Nat) (l0 : List Int) (A1 : Option Addr) (c1 : Nat) (l1 : List Int) (A2 : Option Addr) (c2 : Nat) (l2 : List Int) (a3 a4 : Int) (w : World) (hr0 : Kd.C (Kd.int .i64) w A0 l0.length l0) (hc0 : l0.length ≤ c0) (hr1 : Kd.C (Kd.int .i64) w A1 l1.length l1) (hc1 : l1.length ≤ c1) (hr2 : Kd.C (Kd.int .i64) w A2 l2.length l2) (hc2 : l2.length ≤ c2) :
    Calls Try.prog 5 #[.slice A0 l0.length c0, .slice A1 l1.length c1, .slice A2 l2.length c2, .int .i64 a3, .int .i64 a4] w fun e w' => e = .returned (.bool true) ∧ Below w.heap.size w w' := by
  have F0 := few_at A0 c0 l0 60 w hc0
  have F2 := few_at A2 c2 l2 60 w hc2
  have C0 := C_few 60 hr0
  have C2 := C_few 60 hr2
  have L0 : (l0.take 60).length ≤ 60 := by rw [List.length_take]; omega
  have L2 : (l2.take 60).length ≤ 60 := by rw [List.length_take]; omega
  have K0 : (l0.take 60).length ≤ c0 := by rw [List.length_take]; omega
  have K2 : (l2.take 60).length ≤ c2 := by rw [List.length_take]; omega
  generalize l0.take 60 = h at *
  generalize l2.take 60 = m at *
  have V1 := Aside0.mk (valid_eq h l1 m a3 a4 (by omega) 2000000 (by omega))
  have V2 := Aside0.mk (rvalid_eq h l1 m a3 a4 (by omega) 2000000 (by omega))
  have M1 := Aside0.mk (most_eq h l1 a3 a4 (by omega) 2000000 (by omega))
  have M2 := Aside0.mk (rmost_eq h l1 a3 a4 (by omega) 2000000 (by omega))
  generalize validS h l1 m a3 a4 = vb at *
  generalize mostS h l1 a3 a4 = mb at *
  replace F0 := Aside0.mk F0
  replace F2 := Aside0.mk F2
  have B0 := Below.refl w.heap.size w
  clear hr0 hr2
  go_enter Try.func5, Try.ntmps5
  go_wp2_with (first
    | (go_at_call_of 9 l0; refine F0.out.mono ?_; rintro e w1 ⟨rfl, rfl⟩; clear F0)
    | (go_at_call_of 9 l2; refine F2.out.mono ?_; rintro e w1 ⟨rfl, rfl⟩; clear F2)
    | (go_at_call 18; refine (rule_Valid.calls 2000000 A0 c0 h A1 c1 l1 A2 c2 m a3 a4 vb _ C0 K0 hr1 hc1 C2 K2 V1.out).mono ?_; rintro e w1 ⟨rfl, hW⟩; replace C0 := Kd.C_below C0 hW; replace C2 := Kd.C_below C2 hW; replace hr1 := Kd.C_below hr1 hW; have B1 := below_step B0 hW; clear hW B0 V1)
    | (go_at_call 19; refine (reefref12_Valid.calls 2000000 A0 c0 h A1 c1 l1 A2 c2 m a3 a4 vb _ C0 K0 hr1 hc1 C2 K2 V2.out).mono ?_; rintro e w2 ⟨rfl, hW⟩; replace C0 := Kd.C_below C0 hW; replace C2 := Kd.C_below C2 hW; replace hr1 := Kd.C_below hr1 hW; have B2 := below_step B1 hW; clear hW B1 V2)
    | (go_at_call 20; refine (rule_Most.calls 2000000 A0 c0 h A1 c1 l1 a3 a4 mb _ C0 K0 hr1 hc1 M1.out).mono ?_; rintro e w3 ⟨rfl, hW⟩; replace C0 := Kd.C_below C0 hW; replace hr1 := Kd.C_below hr1 hW; have B3 := below_step B2 hW; clear hW B2 M1)
    | (go_at_call 21; refine (reefref12_Most.calls 2000000 A0 c0 h A1 c1 l1 a3 a4 mb _ C0 K0 hr1 hc1 M2.out).mono ?_; rintro e w4 ⟨rfl, hW⟩; have B4 := below_step B3 hW; clear hW B3 M2)
    | (go_at_call 17; refine (reeflaw12_awake.calls true _ rfl).mono ?_; rintro e w5 ⟨rfl, hW⟩; have B5 := below_step B4 hW; clear hW B4))
  go_ret
  exact ⟨rfl, B5⟩
end Go.Proofs.Ytbaldkcnipmdjaa.P
