/- Texts of this claim, merged by pack.py: PReefref21Common PReefref21Copy Q7 PReeflaw21Texts -/
import Derived.Test.YtbdciklcckjknaaZD01
import Derived.Test.YtbdciklcckjknaaZD05
import Derived.Test.YtbdciklcckjknaaZD10
namespace Go.Proofs.Ytbdciklcckjknaa.P
open Go.RowKit Go.Proofs.YtbdciklcckjknaaW.PrintWords Go.Proofs.YtbdciklcckjknaaW.PrintLast Go.Proofs.YtbdciklcckjknaaW.PrintMore
attribute [local go_sem] max2_int min2_int max_two min_two max_three min_three max_four min_four
set_option linter.unusedVariables false
set_option linter.unusedSimpArgs false
attribute [local go_sem high] eqA24 eqA29
mutual
def reefref21_Common.l0 : Nat → List (S34) → List (S34) → Int → Option (Int × Int × Bool)
  | 0, _, _, _ => none
  | k + 1, x0, x1, x6 => if x6 ≥ 0 then (reefref21_Common.l1 k x0 x1 x6 0) else (some (0, 0, false))
def reefref21_Common.l1 : Nat → List (S34) → List (S34) → Int → Int → Option (Int × Int × Bool)
  | 0, _, _, _, _ => none
  | k + 1, x0, x1, x6, x7 => if x7 < (x1.length : Int) then (if 0 ≤ x6 then (if x6 < (x0.length : Int) then (if 0 ≤ x7 then (if (((rd_T34 x0 x6).f0.f0) == ((rd_T34 x1 x7).f0.f0) && (((rd_T34 x0 x6).f0.f1) == ((rd_T34 x1 x7).f0.f1))) = true then (if (((rd_T34 x0 x6).f1.f0) == ((rd_T34 x1 x7).f1.f0) && (((rd_T34 x0 x6).f1.f1) == ((rd_T34 x1 x7).f1.f1) && (((rd_T34 x0 x6).f1.f2) == ((rd_T34 x1 x7).f1.f2) && ((((rd_T34 x0 x6).f1.f3.f0) == ((rd_T34 x1 x7).f1.f3.f0) && ((((rd_T34 x0 x6).f1.f3.f1).toList) == (((rd_T34 x1 x7).f1.f3.f1).toList) && (((rd_T34 x0 x6).f1.f3.f2) == ((rd_T34 x1 x7).f1.f3.f2) && (((rd_T34 x0 x6).f1.f3.f3) == ((rd_T34 x1 x7).f1.f3.f3) && ((((rd_T34 x0 x6).f1.f3.f4).toList) == (((rd_T34 x1 x7).f1.f3.f4).toList)))))))))) = true then (some ((rd_T34 x0 x6).f0.f0, (rd_T34 x0 x6).f0.f1, true)) else (reefref21_Common.l1 k x0 x1 x6 (wrap64 (x7 + 1)))) else (reefref21_Common.l1 k x0 x1 x6 (wrap64 (x7 + 1)))) else (none)) else (none)) else (none)) else (reefref21_Common.l0 k x0 x1 (wrap64 (x6 - 1)))
end
def reefref21_Common.f (k : Nat) (l0 : List (S34)) (l1 : List (S34)) : Option (Int × Int × Bool) := reefref21_Common.l0 k l0 l1 (wrap64 ((l0.length : Int) - 1))
set_option maxHeartbeats 8000000 in
set_option maxRecDepth 100000 in
theorem reefref21_Common.calls (k : Nat) (A0 : Option Addr) (c0 : Nat) (l0 : List (S34)) (A1 : Option Addr) (c1 : Nat) (l1 : List (S34)) (r1 : Int) (r2 : Int) (r3 : Bool) (w : World) (hr0 : Kd.C k34 w A0 l0.length l0) (hc0 : l0.length ≤ c0) (hr1 : Kd.C k34 w A1 l1.length l1) (hc1 : l1.length ≤ c1) (h : reefref21_Common.f k l0 l1 = some (r1, r2, r3)) :
    Calls Try.prog 21 #[.slice A0 l0.length c0, .slice A1 l1.length c1] w fun e w' => e = .returned (.tuple #[.agg #[.int .i64 r1, .int .i64 r2], .bool r3]) ∧ Below w.heap.size w w' := by
  have hu24 := Try.underlying24
  have hu29 := Try.underlying29
  have HR0 := Aside0.mk hr0
  have HC0 := Aside0.mk hc0
  clear hr0 hc0
  have HR1 := Aside0.mk hr1
  have HC1 := Aside0.mk hc1
  clear hr1 hc1
  have HB := Aside0.mk (Below.refl w.heap.size w)
  have H : (reefref21_Common.l0 k l0 l1 (wrap64 ((l0.length : Int) - 1))) = some (r1, r2, r3) := h
  clear h
  have H' := Aside0.mk H
  clear H
  go_enter Try.func21, Try.ntmps21
  go_wp2_with (first | ((with_reducible refine gate_dst (N := 4) rfl ?_); refine box_event ?hg (N := 4) ?hd (cs := #[.int .i64 0, .int .i64 0]) (t := 24) ?hr ?_; (case hd => rfl); (case hg => rfl); (case hr => first | (go_simp; done) | (go_simp; rfl)); intro gb199 hg w3 hbox hb; have n0_ := Aside0.mk (below_step (by repeat (first | (with_reducible first | exact HB.out | apply below_alloc | apply pw_below_drewN | apply below_drew1) | exact HB.out)) hb); have n1_ := Aside0.mk (hbox); have n2_ := Aside0.mk ((by rw [hg]; exact (below_size (by repeat (first | (with_reducible first | exact HB.out | apply below_alloc | apply pw_below_drewN | apply below_drew1) | exact HB.out))) : w.heap.size ≤ gb199)); have n3_ := Aside0.mk ((by rw [hg]; exact (below_size (by repeat (first | (with_reducible first | exact HB.out | apply below_alloc | apply pw_below_drewN | apply below_drew1) | exact HB.out))) : w.heap.size ≤ gb199)); clear HB; have HB := n0_; have BK199 := n1_; have GW199 := n2_; have GE199 := n3_; clear n0_ n1_ n2_ n3_; clear hb hbox hg))
  repeat (go_quiet (first | ((with_reducible refine gate_dst (N := 4) rfl ?_); refine box_event ?hg (N := 4) ?hd (cs := #[.int .i64 0, .int .i64 0]) (t := 24) ?hr ?_; (case hd => rfl); (case hg => rfl); (case hr => first | (go_simp; done) | (go_simp; rfl)); intro gb199 hg w3 hbox hb; have n0_ := Aside0.mk (below_step (by repeat (first | (with_reducible first | exact HB.out | apply below_alloc | apply pw_below_drewN | apply below_drew1) | exact HB.out)) hb); have n1_ := Aside0.mk (hbox); have n2_ := Aside0.mk ((by rw [hg]; exact (below_size (by repeat (first | (with_reducible first | exact HB.out | apply below_alloc | apply pw_below_drewN | apply below_drew1) | exact HB.out))) : w.heap.size ≤ gb199)); have n3_ := Aside0.mk ((by rw [hg]; exact (below_size (by repeat (first | (with_reducible first | exact HB.out | apply below_alloc | apply pw_below_drewN | apply below_drew1) | exact HB.out))) : w.heap.size ≤ gb199)); clear HB; have HB := n0_; have BK199 := n1_; have GW199 := n2_; have GE199 := n3_; clear n0_ n1_ n2_ n3_; clear hb hbox hg)); try go_wp2_with (first | ((with_reducible refine gate_dst (N := 4) rfl ?_); refine box_event ?hg (N := 4) ?hd (cs := #[.int .i64 0, .int .i64 0]) (t := 24) ?hr ?_; (case hd => rfl); (case hg => rfl); (case hr => first | (go_simp; done) | (go_simp; rfl)); intro gb199 hg w3 hbox hb; have n0_ := Aside0.mk (below_step (by repeat (first | (with_reducible first | exact HB.out | apply below_alloc | apply pw_below_drewN | apply below_drew1) | exact HB.out)) hb); have n1_ := Aside0.mk (hbox); have n2_ := Aside0.mk ((by rw [hg]; exact (below_size (by repeat (first | (with_reducible first | exact HB.out | apply below_alloc | apply pw_below_drewN | apply below_drew1) | exact HB.out))) : w.heap.size ≤ gb199)); have n3_ := Aside0.mk ((by rw [hg]; exact (below_size (by repeat (first | (with_reducible first | exact HB.out | apply below_alloc | apply pw_below_drewN | apply below_drew1) | exact HB.out))) : w.heap.size ≤ gb199)); clear HB; have HB := n0_; have BK199 := n1_; have GW199 := n2_; have GE199 := n3_; clear n0_ n1_ n2_ n3_; clear hb hbox hg)))
  go_loopg [6] k (fun kq v6 w' => ∃ (x6_1 : Int) (x200000_1 : Int) (x200001_1 : Int), v6 = .int .i64 x6_1 ∧ Aside0 (reefref21_Common.l0 kq l0 l1 x6_1 = some (r1, r2, r3)) ∧ Aside0 (kq ≤ k) ∧ Aside0 (w'.heap[gb199]? = some (.cells #[.int .i64 x200000_1, .int .i64 x200001_1] 24 (0, 0))) ∧ Aside0 (Below w.heap.size w w'))
  case atStart => exact ⟨(wrap64 ((l0.length : Int) - 1)), (0), (0), (by first | rfl | (simp; done) | (simp [*]; done)), H', ⟨Nat.le_refl _⟩, ⟨by (with_reducible repeat (first | refine blk_drewN ?_ _ | refine blk_drew ?_ | refine blk_alloc ?_ _)); exact BK199.out⟩, ⟨by repeat (first | (with_reducible first | exact HB.out | apply below_alloc | apply pw_below_drewN | apply below_drew1 | refine below_set ?_ GE199.out) | exact HB.out)⟩⟩
  case round =>
    clear H'
    try clear c1
    try clear c2
    try clear p2
    obtain ⟨x6_1, x200000_1, x200001_1, rfl, HA, HK1, BK199, HB⟩ := hrel
    cases gk with
    | zero => exact absurd HA.out (by simp [reefref21_Common.l0])
    | succ k1 =>
      have H := HA.out
      clear HA
      simp only [reefref21_Common.l0] at H
      by_cases c4 : x6_1 ≥ 0
      · rw [if_pos c4] at H
        have c4b0 : decide (0 ≤ x6_1) = true := decide_eq_true c4
        clear c4
        have H' := Aside0.mk H
        clear H
        go_wp2
        repeat (go_quiet (fail); try go_wp2)
        go_loopg [7] k1 (fun kq v7 w' => ∃ (x7_2 : Int) (x200000_2 : Int) (x200001_2 : Int), v7 = .int .i64 x7_2 ∧ Aside0 (reefref21_Common.l1 kq l0 l1 x6_1 x7_2 = some (r1, r2, r3)) ∧ Aside0 (kq ≤ k1) ∧ Aside0 (w'.heap[gb199]? = some (.cells #[.int .i64 x200000_2, .int .i64 x200001_2] 24 (0, 0))) ∧ Aside0 (Below w.heap.size w w'))
        case atStart => exact ⟨(0), (x200000_1), (x200001_1), (by first | rfl | (simp; done) | (simp [*]; done)), H', ⟨Nat.le_refl _⟩, ⟨by (with_reducible repeat (first | refine blk_drewN ?_ _ | refine blk_drew ?_ | refine blk_alloc ?_ _)); exact BK199.out⟩, ⟨by repeat (first | (with_reducible first | exact HB.out | apply below_alloc | apply pw_below_drewN | apply below_drew1 | refine below_set ?_ GE199.out) | exact HB.out)⟩⟩
        case round =>
          clear H'
          try clear c1
          try clear c2
          try clear p2
          try clear c4
          try clear c4b0
          try clear p2
          obtain ⟨x7_2, x200000_2, x200001_2, rfl, HA, HK2, BK199, HB⟩ := hrel
          cases gk with
          | zero => exact absurd HA.out (by simp [reefref21_Common.l1])
          | succ k2 =>
            have H := HA.out
            clear HA
            simp only [reefref21_Common.l1] at H
            by_cases c5 : x7_2 < (l1.length : Int)
            · rw [if_pos c5] at H
              have c5b0 : decide (x7_2 < (l1.length : Int)) = true := decide_eq_true c5
              clear c5
              by_cases c6 : 0 ≤ x6_1
              · rw [if_pos c6] at H
                have c6b0 : decide (0 ≤ x6_1) = true := decide_eq_true c6
                clear c6
                by_cases c7 : x6_1 < (l0.length : Int)
                · rw [if_pos c7] at H
                  have c7b0 : decide (x6_1 < (l0.length : Int)) = true := decide_eq_true c7
                  clear c7
                  by_cases c8 : 0 ≤ x7_2
                  · rw [if_pos c8] at H
                    have c8b0 : decide (0 ≤ x7_2) = true := decide_eq_true c8
                    clear c8
                    by_cases c9 : (((rd_T34 l0 x6_1).f0.f0) == ((rd_T34 l1 x7_2).f0.f0) && (((rd_T34 l0 x6_1).f0.f1) == ((rd_T34 l1 x7_2).f0.f1))) = true
                    · rw [if_pos c9] at H
                      have c9b0 : (((rd_T34 l0 x6_1).f0.f0) == ((rd_T34 l1 x7_2).f0.f0) && (((rd_T34 l0 x6_1).f0.f1) == ((rd_T34 l1 x7_2).f0.f1))) = true := c9
                      (try (have c9b1 : decide (((rd_T34 l0 x6_1).f0.f0) = ((rd_T34 l1 x7_2).f0.f0) && (((rd_T34 l0 x6_1).f0.f1) == ((rd_T34 l1 x7_2).f0.f1))) = true := by simpa using c9))
                      (try (have c9b2 : (((rd_T34 l0 x6_1).f0.f0) == ((rd_T34 l1 x7_2).f0.f0) && (((rd_T34 l0 x6_1).f0.f1) == ((rd_T34 l1 x7_2).f0.f1))) = true := by simpa using c9))
                      clear c9
                      by_cases c10 : (((rd_T34 l0 x6_1).f1.f0) == ((rd_T34 l1 x7_2).f1.f0) && (((rd_T34 l0 x6_1).f1.f1) == ((rd_T34 l1 x7_2).f1.f1) && (((rd_T34 l0 x6_1).f1.f2) == ((rd_T34 l1 x7_2).f1.f2) && ((((rd_T34 l0 x6_1).f1.f3.f0) == ((rd_T34 l1 x7_2).f1.f3.f0) && ((((rd_T34 l0 x6_1).f1.f3.f1).toList) == (((rd_T34 l1 x7_2).f1.f3.f1).toList) && (((rd_T34 l0 x6_1).f1.f3.f2) == ((rd_T34 l1 x7_2).f1.f3.f2) && (((rd_T34 l0 x6_1).f1.f3.f3) == ((rd_T34 l1 x7_2).f1.f3.f3) && ((((rd_T34 l0 x6_1).f1.f3.f4).toList) == (((rd_T34 l1 x7_2).f1.f3.f4).toList)))))))))) = true
                      · rw [if_pos c10] at H
                        have c10b0 : (((rd_T34 l0 x6_1).f1.f0) == ((rd_T34 l1 x7_2).f1.f0) && (((rd_T34 l0 x6_1).f1.f1) == ((rd_T34 l1 x7_2).f1.f1) && (((rd_T34 l0 x6_1).f1.f2) == ((rd_T34 l1 x7_2).f1.f2) && ((((rd_T34 l0 x6_1).f1.f3.f0) == ((rd_T34 l1 x7_2).f1.f3.f0) && ((((rd_T34 l0 x6_1).f1.f3.f1).toList) == (((rd_T34 l1 x7_2).f1.f3.f1).toList) && (((rd_T34 l0 x6_1).f1.f3.f2) == ((rd_T34 l1 x7_2).f1.f3.f2) && (((rd_T34 l0 x6_1).f1.f3.f3) == ((rd_T34 l1 x7_2).f1.f3.f3) && ((((rd_T34 l0 x6_1).f1.f3.f4).toList) == (((rd_T34 l1 x7_2).f1.f3.f4).toList)))))))))) = true := c10
                        (try (have c10b1 : decide (((rd_T34 l0 x6_1).f1.f0) = ((rd_T34 l1 x7_2).f1.f0) && (((rd_T34 l0 x6_1).f1.f1) == ((rd_T34 l1 x7_2).f1.f1) && (((rd_T34 l0 x6_1).f1.f2) == ((rd_T34 l1 x7_2).f1.f2) && ((((rd_T34 l0 x6_1).f1.f3.f0) == ((rd_T34 l1 x7_2).f1.f3.f0) && ((((rd_T34 l0 x6_1).f1.f3.f1).toList) == (((rd_T34 l1 x7_2).f1.f3.f1).toList) && (((rd_T34 l0 x6_1).f1.f3.f2) == ((rd_T34 l1 x7_2).f1.f3.f2) && (((rd_T34 l0 x6_1).f1.f3.f3) == ((rd_T34 l1 x7_2).f1.f3.f3) && ((((rd_T34 l0 x6_1).f1.f3.f4).toList) == (((rd_T34 l1 x7_2).f1.f3.f4).toList)))))))))) = true := by simpa using c10))
                        (try (have c10b2 : (((rd_T34 l0 x6_1).f1.f0) == ((rd_T34 l1 x7_2).f1.f0) && (((rd_T34 l0 x6_1).f1.f1) == ((rd_T34 l1 x7_2).f1.f1) && (((rd_T34 l0 x6_1).f1.f2) == ((rd_T34 l1 x7_2).f1.f2) && ((((rd_T34 l0 x6_1).f1.f3.f0) == ((rd_T34 l1 x7_2).f1.f3.f0) && ((((rd_T34 l0 x6_1).f1.f3.f1).toList) == (((rd_T34 l1 x7_2).f1.f3.f1).toList) && (((rd_T34 l0 x6_1).f1.f3.f2) == ((rd_T34 l1 x7_2).f1.f3.f2) && (((rd_T34 l0 x6_1).f1.f3.f3) == ((rd_T34 l1 x7_2).f1.f3.f3) && ((((rd_T34 l0 x6_1).f1.f3.f4).toList) == (((rd_T34 l1 x7_2).f1.f3.f4).toList)))))))))) = true := by simpa using c10))
                        clear c10
                        simp only [Option.some.injEq, Prod.mk.injEq] at H
                        obtain ⟨rfl, rfl, rfl⟩ := H
                        have p200 : 0 ≤ (x6_1 : Int) := of_decide_eq_true (by first | (with_reducible assumption) | assumption)
                        have q200 : x6_1 < (l0.length : Int) := of_decide_eq_true (by first | (with_reducible assumption) | assumption)
                        obtain ⟨ad200, e200, hx200_0, hx200_1, hx200_2, hx200_3, hx200_4, hx200_5, hx200_6, hx200_7, hx200_8, hx200_9, hx200_10, hx200_11, hx200_12, hx200_13⟩ := at_T34 HR0.out x6_1 p200 q200
                        cases e200
                        replace hx200_0 := (HB.out.cell (World.block_lt_of_cell? w _ hx200_0)).trans hx200_0
                        replace hx200_1 := (HB.out.cell (World.block_lt_of_cell? w _ hx200_1)).trans hx200_1
                        replace hx200_2 := (HB.out.cell (World.block_lt_of_cell? w _ hx200_2)).trans hx200_2
                        replace hx200_3 := (HB.out.cell (World.block_lt_of_cell? w _ hx200_3)).trans hx200_3
                        replace hx200_4 := (HB.out.cell (World.block_lt_of_cell? w _ hx200_4)).trans hx200_4
                        replace hx200_5 := (HB.out.cell (World.block_lt_of_cell? w _ hx200_5)).trans hx200_5
                        replace hx200_6 := (HB.out.cell (World.block_lt_of_cell? w _ hx200_6)).trans hx200_6
                        replace hx200_7 := (HB.out.cell (World.block_lt_of_cell? w _ hx200_7)).trans hx200_7
                        replace hx200_8 := (HB.out.cell (World.block_lt_of_cell? w _ hx200_8)).trans hx200_8
                        replace hx200_9 := (HB.out.cell (World.block_lt_of_cell? w _ hx200_9)).trans hx200_9
                        replace hx200_10 := (HB.out.cell (World.block_lt_of_cell? w _ hx200_10)).trans hx200_10
                        replace hx200_11 := (HB.out.cell (World.block_lt_of_cell? w _ hx200_11)).trans hx200_11
                        replace hx200_12 := (HB.out.cell (World.block_lt_of_cell? w _ hx200_12)).trans hx200_12
                        replace hx200_13 := (HB.out.cell (World.block_lt_of_cell? w _ hx200_13)).trans hx200_13
                        replace p200 := eq_true p200
                        replace q200 := eq_true q200
                        have p201 : 0 ≤ (x7_2 : Int) := of_decide_eq_true (by first | (with_reducible assumption) | assumption)
                        have q201 : x7_2 < (l1.length : Int) := of_decide_eq_true (by first | (with_reducible assumption) | assumption)
                        obtain ⟨ad201, e201, hx201_0, hx201_1, hx201_2, hx201_3, hx201_4, hx201_5, hx201_6, hx201_7, hx201_8, hx201_9, hx201_10, hx201_11, hx201_12, hx201_13⟩ := at_T34 HR1.out x7_2 p201 q201
                        cases e201
                        replace hx201_0 := (HB.out.cell (World.block_lt_of_cell? w _ hx201_0)).trans hx201_0
                        replace hx201_1 := (HB.out.cell (World.block_lt_of_cell? w _ hx201_1)).trans hx201_1
                        replace hx201_2 := (HB.out.cell (World.block_lt_of_cell? w _ hx201_2)).trans hx201_2
                        replace hx201_3 := (HB.out.cell (World.block_lt_of_cell? w _ hx201_3)).trans hx201_3
                        replace hx201_4 := (HB.out.cell (World.block_lt_of_cell? w _ hx201_4)).trans hx201_4
                        replace hx201_5 := (HB.out.cell (World.block_lt_of_cell? w _ hx201_5)).trans hx201_5
                        replace hx201_6 := (HB.out.cell (World.block_lt_of_cell? w _ hx201_6)).trans hx201_6
                        replace hx201_7 := (HB.out.cell (World.block_lt_of_cell? w _ hx201_7)).trans hx201_7
                        replace hx201_8 := (HB.out.cell (World.block_lt_of_cell? w _ hx201_8)).trans hx201_8
                        replace hx201_9 := (HB.out.cell (World.block_lt_of_cell? w _ hx201_9)).trans hx201_9
                        replace hx201_10 := (HB.out.cell (World.block_lt_of_cell? w _ hx201_10)).trans hx201_10
                        replace hx201_11 := (HB.out.cell (World.block_lt_of_cell? w _ hx201_11)).trans hx201_11
                        replace hx201_12 := (HB.out.cell (World.block_lt_of_cell? w _ hx201_12)).trans hx201_12
                        replace hx201_13 := (HB.out.cell (World.block_lt_of_cell? w _ hx201_13)).trans hx201_13
                        replace p201 := eq_true p201
                        replace q201 := eq_true q201
                        have p202 : 0 ≤ (x6_1 : Int) := of_decide_eq_true (by first | (with_reducible assumption) | assumption)
                        have q202 : x6_1 < (l0.length : Int) := of_decide_eq_true (by first | (with_reducible assumption) | assumption)
                        obtain ⟨ad202, e202, hx202_0, hx202_1, hx202_2, hx202_3, hx202_4, hx202_5, hx202_6, hx202_7, hx202_8, hx202_9, hx202_10, hx202_11, hx202_12, hx202_13⟩ := at_T34 HR0.out x6_1 p202 q202
                        obtain rfl : ad200 = ad202 := (by injection e202)
                        replace hx202_0 := (HB.out.cell (World.block_lt_of_cell? w _ hx202_0)).trans hx202_0
                        replace hx202_1 := (HB.out.cell (World.block_lt_of_cell? w _ hx202_1)).trans hx202_1
                        replace hx202_2 := (HB.out.cell (World.block_lt_of_cell? w _ hx202_2)).trans hx202_2
                        replace hx202_3 := (HB.out.cell (World.block_lt_of_cell? w _ hx202_3)).trans hx202_3
                        replace hx202_4 := (HB.out.cell (World.block_lt_of_cell? w _ hx202_4)).trans hx202_4
                        replace hx202_5 := (HB.out.cell (World.block_lt_of_cell? w _ hx202_5)).trans hx202_5
                        replace hx202_6 := (HB.out.cell (World.block_lt_of_cell? w _ hx202_6)).trans hx202_6
                        replace hx202_7 := (HB.out.cell (World.block_lt_of_cell? w _ hx202_7)).trans hx202_7
                        replace hx202_8 := (HB.out.cell (World.block_lt_of_cell? w _ hx202_8)).trans hx202_8
                        replace hx202_9 := (HB.out.cell (World.block_lt_of_cell? w _ hx202_9)).trans hx202_9
                        replace hx202_10 := (HB.out.cell (World.block_lt_of_cell? w _ hx202_10)).trans hx202_10
                        replace hx202_11 := (HB.out.cell (World.block_lt_of_cell? w _ hx202_11)).trans hx202_11
                        replace hx202_12 := (HB.out.cell (World.block_lt_of_cell? w _ hx202_12)).trans hx202_12
                        replace hx202_13 := (HB.out.cell (World.block_lt_of_cell? w _ hx202_13)).trans hx202_13
                        replace p202 := eq_true p202
                        replace q202 := eq_true q202
                        have p203 : 0 ≤ (x7_2 : Int) := of_decide_eq_true (by first | (with_reducible assumption) | assumption)
                        have q203 : x7_2 < (l1.length : Int) := of_decide_eq_true (by first | (with_reducible assumption) | assumption)
                        obtain ⟨ad203, e203, hx203_0, hx203_1, hx203_2, hx203_3, hx203_4, hx203_5, hx203_6, hx203_7, hx203_8, hx203_9, hx203_10, hx203_11, hx203_12, hx203_13⟩ := at_T34 HR1.out x7_2 p203 q203
                        obtain rfl : ad201 = ad203 := (by injection e203)
                        replace hx203_0 := (HB.out.cell (World.block_lt_of_cell? w _ hx203_0)).trans hx203_0
                        replace hx203_1 := (HB.out.cell (World.block_lt_of_cell? w _ hx203_1)).trans hx203_1
                        replace hx203_2 := (HB.out.cell (World.block_lt_of_cell? w _ hx203_2)).trans hx203_2
                        replace hx203_3 := (HB.out.cell (World.block_lt_of_cell? w _ hx203_3)).trans hx203_3
                        replace hx203_4 := (HB.out.cell (World.block_lt_of_cell? w _ hx203_4)).trans hx203_4
                        replace hx203_5 := (HB.out.cell (World.block_lt_of_cell? w _ hx203_5)).trans hx203_5
                        replace hx203_6 := (HB.out.cell (World.block_lt_of_cell? w _ hx203_6)).trans hx203_6
                        replace hx203_7 := (HB.out.cell (World.block_lt_of_cell? w _ hx203_7)).trans hx203_7
                        replace hx203_8 := (HB.out.cell (World.block_lt_of_cell? w _ hx203_8)).trans hx203_8
                        replace hx203_9 := (HB.out.cell (World.block_lt_of_cell? w _ hx203_9)).trans hx203_9
                        replace hx203_10 := (HB.out.cell (World.block_lt_of_cell? w _ hx203_10)).trans hx203_10
                        replace hx203_11 := (HB.out.cell (World.block_lt_of_cell? w _ hx203_11)).trans hx203_11
                        replace hx203_12 := (HB.out.cell (World.block_lt_of_cell? w _ hx203_12)).trans hx203_12
                        replace hx203_13 := (HB.out.cell (World.block_lt_of_cell? w _ hx203_13)).trans hx203_13
                        replace p203 := eq_true p203
                        replace q203 := eq_true q203
                        have p204 : 0 ≤ (x6_1 : Int) := of_decide_eq_true (by first | (with_reducible assumption) | assumption)
                        have q204 : x6_1 < (l0.length : Int) := of_decide_eq_true (by first | (with_reducible assumption) | assumption)
                        obtain ⟨ad204, e204, hx204_0, hx204_1, hx204_2, hx204_3, hx204_4, hx204_5, hx204_6, hx204_7, hx204_8, hx204_9, hx204_10, hx204_11, hx204_12, hx204_13⟩ := at_T34 HR0.out x6_1 p204 q204
                        obtain rfl : ad200 = ad204 := (by injection e204)
                        replace hx204_0 := (HB.out.cell (World.block_lt_of_cell? w _ hx204_0)).trans hx204_0
                        replace hx204_1 := (HB.out.cell (World.block_lt_of_cell? w _ hx204_1)).trans hx204_1
                        replace hx204_2 := (HB.out.cell (World.block_lt_of_cell? w _ hx204_2)).trans hx204_2
                        replace hx204_3 := (HB.out.cell (World.block_lt_of_cell? w _ hx204_3)).trans hx204_3
                        replace hx204_4 := (HB.out.cell (World.block_lt_of_cell? w _ hx204_4)).trans hx204_4
                        replace hx204_5 := (HB.out.cell (World.block_lt_of_cell? w _ hx204_5)).trans hx204_5
                        replace hx204_6 := (HB.out.cell (World.block_lt_of_cell? w _ hx204_6)).trans hx204_6
                        replace hx204_7 := (HB.out.cell (World.block_lt_of_cell? w _ hx204_7)).trans hx204_7
                        replace hx204_8 := (HB.out.cell (World.block_lt_of_cell? w _ hx204_8)).trans hx204_8
                        replace hx204_9 := (HB.out.cell (World.block_lt_of_cell? w _ hx204_9)).trans hx204_9
                        replace hx204_10 := (HB.out.cell (World.block_lt_of_cell? w _ hx204_10)).trans hx204_10
                        replace hx204_11 := (HB.out.cell (World.block_lt_of_cell? w _ hx204_11)).trans hx204_11
                        replace hx204_12 := (HB.out.cell (World.block_lt_of_cell? w _ hx204_12)).trans hx204_12
                        replace hx204_13 := (HB.out.cell (World.block_lt_of_cell? w _ hx204_13)).trans hx204_13
                        replace p204 := eq_true p204
                        replace q204 := eq_true q204
                        have hcz11_0 : wr.cell? ⟨gb199, 0, none⟩ = some (.int .i64 x200000_2) := (blk_cell BK199.out 0).trans rfl
                        have hcz11_1 : wr.cell? ⟨gb199, 1, none⟩ = some (.int .i64 x200001_2) := (blk_cell BK199.out 1).trans rfl
                        have hfz11_0 := blk_frozen BK199.out 0
                        have hfz11_1 := blk_frozen BK199.out 1
                        go_wp2
                        repeat (go_quiet (fail); try go_wp2)
                        refine bodyPost_ret (results_ct rfl _ _ gb199 24 #[.int .i64 ((rd_T34 l0 x6_1).f0.f0), .int .i64 ((rd_T34 l0 x6_1).f0.f1)] (0, 0) _ rfl (by (with_reducible repeat (first | refine blk_drewN ?_ _ | refine blk_drew ?_ | refine blk_alloc ?_ _)); refine blk_put (cs := #[.int .i64 ((rd_T34 l0 x6_1).f0.f0), .int .i64 x200001_2]) ?_ 1 _ rfl; (with_reducible repeat (first | refine blk_drewN ?_ _ | refine blk_drew ?_ | refine blk_alloc ?_ _)); refine blk_put (cs := #[.int .i64 x200000_2, .int .i64 x200001_2]) ?_ 0 _ rfl; (with_reducible repeat (first | refine blk_drewN ?_ _ | refine blk_drew ?_ | refine blk_alloc ?_ _)); exact BK199.out) Try.underlying24 rfl (by kernel_rfl)) rfl ?_
                        exact ⟨by first | rfl | (simp [errW_none, errW_some] <;> rfl) | (simp [*, errW_none, errW_some] <;> rfl), by repeat (first | (with_reducible first | exact HB.out | apply below_alloc | apply pw_below_drewN | apply below_drew1 | refine below_set ?_ GE199.out) | exact HB.out)⟩
                      · rw [if_neg c10] at H
                        have c10b0 : (((rd_T34 l0 x6_1).f1.f0) == ((rd_T34 l1 x7_2).f1.f0) && (((rd_T34 l0 x6_1).f1.f1) == ((rd_T34 l1 x7_2).f1.f1) && (((rd_T34 l0 x6_1).f1.f2) == ((rd_T34 l1 x7_2).f1.f2) && ((((rd_T34 l0 x6_1).f1.f3.f0) == ((rd_T34 l1 x7_2).f1.f3.f0) && ((((rd_T34 l0 x6_1).f1.f3.f1).toList) == (((rd_T34 l1 x7_2).f1.f3.f1).toList) && (((rd_T34 l0 x6_1).f1.f3.f2) == ((rd_T34 l1 x7_2).f1.f3.f2) && (((rd_T34 l0 x6_1).f1.f3.f3) == ((rd_T34 l1 x7_2).f1.f3.f3) && ((((rd_T34 l0 x6_1).f1.f3.f4).toList) == (((rd_T34 l1 x7_2).f1.f3.f4).toList)))))))))) = false := by simpa using c10
                        (try (have c10b1 : decide (((rd_T34 l0 x6_1).f1.f0) = ((rd_T34 l1 x7_2).f1.f0) && (((rd_T34 l0 x6_1).f1.f1) == ((rd_T34 l1 x7_2).f1.f1) && (((rd_T34 l0 x6_1).f1.f2) == ((rd_T34 l1 x7_2).f1.f2) && ((((rd_T34 l0 x6_1).f1.f3.f0) == ((rd_T34 l1 x7_2).f1.f3.f0) && ((((rd_T34 l0 x6_1).f1.f3.f1).toList) == (((rd_T34 l1 x7_2).f1.f3.f1).toList) && (((rd_T34 l0 x6_1).f1.f3.f2) == ((rd_T34 l1 x7_2).f1.f3.f2) && (((rd_T34 l0 x6_1).f1.f3.f3) == ((rd_T34 l1 x7_2).f1.f3.f3) && ((((rd_T34 l0 x6_1).f1.f3.f4).toList) == (((rd_T34 l1 x7_2).f1.f3.f4).toList)))))))))) = false := by simpa using c10))
                        (try (have c10b2 : (((rd_T34 l0 x6_1).f1.f0) == ((rd_T34 l1 x7_2).f1.f0) && (((rd_T34 l0 x6_1).f1.f1) == ((rd_T34 l1 x7_2).f1.f1) && (((rd_T34 l0 x6_1).f1.f2) == ((rd_T34 l1 x7_2).f1.f2) && ((((rd_T34 l0 x6_1).f1.f3.f0) == ((rd_T34 l1 x7_2).f1.f3.f0) && ((((rd_T34 l0 x6_1).f1.f3.f1).toList) == (((rd_T34 l1 x7_2).f1.f3.f1).toList) && (((rd_T34 l0 x6_1).f1.f3.f2) == ((rd_T34 l1 x7_2).f1.f3.f2) && (((rd_T34 l0 x6_1).f1.f3.f3) == ((rd_T34 l1 x7_2).f1.f3.f3) && ((((rd_T34 l0 x6_1).f1.f3.f4).toList) == (((rd_T34 l1 x7_2).f1.f3.f4).toList)))))))))) = false := by simpa using c10))
                        (try (have c10b3 : ¬ (((rd_T34 l0 x6_1).f1.f0) = ((rd_T34 l1 x7_2).f1.f0) && (((rd_T34 l0 x6_1).f1.f1) == ((rd_T34 l1 x7_2).f1.f1) && (((rd_T34 l0 x6_1).f1.f2) == ((rd_T34 l1 x7_2).f1.f2) && ((((rd_T34 l0 x6_1).f1.f3.f0) == ((rd_T34 l1 x7_2).f1.f3.f0) && ((((rd_T34 l0 x6_1).f1.f3.f1).toList) == (((rd_T34 l1 x7_2).f1.f3.f1).toList) && (((rd_T34 l0 x6_1).f1.f3.f2) == ((rd_T34 l1 x7_2).f1.f3.f2) && (((rd_T34 l0 x6_1).f1.f3.f3) == ((rd_T34 l1 x7_2).f1.f3.f3) && ((((rd_T34 l0 x6_1).f1.f3.f4).toList) == (((rd_T34 l1 x7_2).f1.f3.f4).toList)))))))))) := by simpa using c10))
                        clear c10
                        have H' := Aside0.mk H
                        clear H
                        have p200 : 0 ≤ (x6_1 : Int) := of_decide_eq_true (by first | (with_reducible assumption) | assumption)
                        have q200 : x6_1 < (l0.length : Int) := of_decide_eq_true (by first | (with_reducible assumption) | assumption)
                        obtain ⟨ad200, e200, hx200_0, hx200_1, hx200_2, hx200_3, hx200_4, hx200_5, hx200_6, hx200_7, hx200_8, hx200_9, hx200_10, hx200_11, hx200_12, hx200_13⟩ := at_T34 HR0.out x6_1 p200 q200
                        cases e200
                        replace hx200_0 := (HB.out.cell (World.block_lt_of_cell? w _ hx200_0)).trans hx200_0
                        replace hx200_1 := (HB.out.cell (World.block_lt_of_cell? w _ hx200_1)).trans hx200_1
                        replace hx200_2 := (HB.out.cell (World.block_lt_of_cell? w _ hx200_2)).trans hx200_2
                        replace hx200_3 := (HB.out.cell (World.block_lt_of_cell? w _ hx200_3)).trans hx200_3
                        replace hx200_4 := (HB.out.cell (World.block_lt_of_cell? w _ hx200_4)).trans hx200_4
                        replace hx200_5 := (HB.out.cell (World.block_lt_of_cell? w _ hx200_5)).trans hx200_5
                        replace hx200_6 := (HB.out.cell (World.block_lt_of_cell? w _ hx200_6)).trans hx200_6
                        replace hx200_7 := (HB.out.cell (World.block_lt_of_cell? w _ hx200_7)).trans hx200_7
                        replace hx200_8 := (HB.out.cell (World.block_lt_of_cell? w _ hx200_8)).trans hx200_8
                        replace hx200_9 := (HB.out.cell (World.block_lt_of_cell? w _ hx200_9)).trans hx200_9
                        replace hx200_10 := (HB.out.cell (World.block_lt_of_cell? w _ hx200_10)).trans hx200_10
                        replace hx200_11 := (HB.out.cell (World.block_lt_of_cell? w _ hx200_11)).trans hx200_11
                        replace hx200_12 := (HB.out.cell (World.block_lt_of_cell? w _ hx200_12)).trans hx200_12
                        replace hx200_13 := (HB.out.cell (World.block_lt_of_cell? w _ hx200_13)).trans hx200_13
                        replace p200 := eq_true p200
                        replace q200 := eq_true q200
                        have p201 : 0 ≤ (x7_2 : Int) := of_decide_eq_true (by first | (with_reducible assumption) | assumption)
                        have q201 : x7_2 < (l1.length : Int) := of_decide_eq_true (by first | (with_reducible assumption) | assumption)
                        obtain ⟨ad201, e201, hx201_0, hx201_1, hx201_2, hx201_3, hx201_4, hx201_5, hx201_6, hx201_7, hx201_8, hx201_9, hx201_10, hx201_11, hx201_12, hx201_13⟩ := at_T34 HR1.out x7_2 p201 q201
                        cases e201
                        replace hx201_0 := (HB.out.cell (World.block_lt_of_cell? w _ hx201_0)).trans hx201_0
                        replace hx201_1 := (HB.out.cell (World.block_lt_of_cell? w _ hx201_1)).trans hx201_1
                        replace hx201_2 := (HB.out.cell (World.block_lt_of_cell? w _ hx201_2)).trans hx201_2
                        replace hx201_3 := (HB.out.cell (World.block_lt_of_cell? w _ hx201_3)).trans hx201_3
                        replace hx201_4 := (HB.out.cell (World.block_lt_of_cell? w _ hx201_4)).trans hx201_4
                        replace hx201_5 := (HB.out.cell (World.block_lt_of_cell? w _ hx201_5)).trans hx201_5
                        replace hx201_6 := (HB.out.cell (World.block_lt_of_cell? w _ hx201_6)).trans hx201_6
                        replace hx201_7 := (HB.out.cell (World.block_lt_of_cell? w _ hx201_7)).trans hx201_7
                        replace hx201_8 := (HB.out.cell (World.block_lt_of_cell? w _ hx201_8)).trans hx201_8
                        replace hx201_9 := (HB.out.cell (World.block_lt_of_cell? w _ hx201_9)).trans hx201_9
                        replace hx201_10 := (HB.out.cell (World.block_lt_of_cell? w _ hx201_10)).trans hx201_10
                        replace hx201_11 := (HB.out.cell (World.block_lt_of_cell? w _ hx201_11)).trans hx201_11
                        replace hx201_12 := (HB.out.cell (World.block_lt_of_cell? w _ hx201_12)).trans hx201_12
                        replace hx201_13 := (HB.out.cell (World.block_lt_of_cell? w _ hx201_13)).trans hx201_13
                        replace p201 := eq_true p201
                        replace q201 := eq_true q201
                        have p202 : 0 ≤ (x6_1 : Int) := of_decide_eq_true (by first | (with_reducible assumption) | assumption)
                        have q202 : x6_1 < (l0.length : Int) := of_decide_eq_true (by first | (with_reducible assumption) | assumption)
                        obtain ⟨ad202, e202, hx202_0, hx202_1, hx202_2, hx202_3, hx202_4, hx202_5, hx202_6, hx202_7, hx202_8, hx202_9, hx202_10, hx202_11, hx202_12, hx202_13⟩ := at_T34 HR0.out x6_1 p202 q202
                        obtain rfl : ad200 = ad202 := (by injection e202)
                        replace hx202_0 := (HB.out.cell (World.block_lt_of_cell? w _ hx202_0)).trans hx202_0
                        replace hx202_1 := (HB.out.cell (World.block_lt_of_cell? w _ hx202_1)).trans hx202_1
                        replace hx202_2 := (HB.out.cell (World.block_lt_of_cell? w _ hx202_2)).trans hx202_2
                        replace hx202_3 := (HB.out.cell (World.block_lt_of_cell? w _ hx202_3)).trans hx202_3
                        replace hx202_4 := (HB.out.cell (World.block_lt_of_cell? w _ hx202_4)).trans hx202_4
                        replace hx202_5 := (HB.out.cell (World.block_lt_of_cell? w _ hx202_5)).trans hx202_5
                        replace hx202_6 := (HB.out.cell (World.block_lt_of_cell? w _ hx202_6)).trans hx202_6
                        replace hx202_7 := (HB.out.cell (World.block_lt_of_cell? w _ hx202_7)).trans hx202_7
                        replace hx202_8 := (HB.out.cell (World.block_lt_of_cell? w _ hx202_8)).trans hx202_8
                        replace hx202_9 := (HB.out.cell (World.block_lt_of_cell? w _ hx202_9)).trans hx202_9
                        replace hx202_10 := (HB.out.cell (World.block_lt_of_cell? w _ hx202_10)).trans hx202_10
                        replace hx202_11 := (HB.out.cell (World.block_lt_of_cell? w _ hx202_11)).trans hx202_11
                        replace hx202_12 := (HB.out.cell (World.block_lt_of_cell? w _ hx202_12)).trans hx202_12
                        replace hx202_13 := (HB.out.cell (World.block_lt_of_cell? w _ hx202_13)).trans hx202_13
                        replace p202 := eq_true p202
                        replace q202 := eq_true q202
                        have p203 : 0 ≤ (x7_2 : Int) := of_decide_eq_true (by first | (with_reducible assumption) | assumption)
                        have q203 : x7_2 < (l1.length : Int) := of_decide_eq_true (by first | (with_reducible assumption) | assumption)
                        obtain ⟨ad203, e203, hx203_0, hx203_1, hx203_2, hx203_3, hx203_4, hx203_5, hx203_6, hx203_7, hx203_8, hx203_9, hx203_10, hx203_11, hx203_12, hx203_13⟩ := at_T34 HR1.out x7_2 p203 q203
                        obtain rfl : ad201 = ad203 := (by injection e203)
                        replace hx203_0 := (HB.out.cell (World.block_lt_of_cell? w _ hx203_0)).trans hx203_0
                        replace hx203_1 := (HB.out.cell (World.block_lt_of_cell? w _ hx203_1)).trans hx203_1
                        replace hx203_2 := (HB.out.cell (World.block_lt_of_cell? w _ hx203_2)).trans hx203_2
                        replace hx203_3 := (HB.out.cell (World.block_lt_of_cell? w _ hx203_3)).trans hx203_3
                        replace hx203_4 := (HB.out.cell (World.block_lt_of_cell? w _ hx203_4)).trans hx203_4
                        replace hx203_5 := (HB.out.cell (World.block_lt_of_cell? w _ hx203_5)).trans hx203_5
                        replace hx203_6 := (HB.out.cell (World.block_lt_of_cell? w _ hx203_6)).trans hx203_6
                        replace hx203_7 := (HB.out.cell (World.block_lt_of_cell? w _ hx203_7)).trans hx203_7
                        replace hx203_8 := (HB.out.cell (World.block_lt_of_cell? w _ hx203_8)).trans hx203_8
                        replace hx203_9 := (HB.out.cell (World.block_lt_of_cell? w _ hx203_9)).trans hx203_9
                        replace hx203_10 := (HB.out.cell (World.block_lt_of_cell? w _ hx203_10)).trans hx203_10
                        replace hx203_11 := (HB.out.cell (World.block_lt_of_cell? w _ hx203_11)).trans hx203_11
                        replace hx203_12 := (HB.out.cell (World.block_lt_of_cell? w _ hx203_12)).trans hx203_12
                        replace hx203_13 := (HB.out.cell (World.block_lt_of_cell? w _ hx203_13)).trans hx203_13
                        replace p203 := eq_true p203
                        replace q203 := eq_true q203
                        go_wp2
                        repeat (go_quiet (fail); try go_wp2)
                        go_roundg k2
                        case measure => have := HK1.out; have := HK2.out; omega
                        case rel => exact ⟨(wrap64 (x7_2 + 1)), (x200000_2), (x200001_2), (by first | rfl | (simp; done) | (simp [*]; done)), H', ⟨by have := HK1.out; have := HK2.out; omega⟩, ⟨by (with_reducible repeat (first | refine blk_drewN ?_ _ | refine blk_drew ?_ | refine blk_alloc ?_ _)); exact BK199.out⟩, ⟨by repeat (first | (with_reducible first | exact HB.out | apply below_alloc | apply pw_below_drewN | apply below_drew1 | refine below_set ?_ GE199.out) | exact HB.out)⟩⟩
                    · rw [if_neg c9] at H
                      have c9b0 : (((rd_T34 l0 x6_1).f0.f0) == ((rd_T34 l1 x7_2).f0.f0) && (((rd_T34 l0 x6_1).f0.f1) == ((rd_T34 l1 x7_2).f0.f1))) = false := by simpa using c9
                      (try (have c9b1 : decide (((rd_T34 l0 x6_1).f0.f0) = ((rd_T34 l1 x7_2).f0.f0) && (((rd_T34 l0 x6_1).f0.f1) == ((rd_T34 l1 x7_2).f0.f1))) = false := by simpa using c9))
                      (try (have c9b2 : (((rd_T34 l0 x6_1).f0.f0) == ((rd_T34 l1 x7_2).f0.f0) && (((rd_T34 l0 x6_1).f0.f1) == ((rd_T34 l1 x7_2).f0.f1))) = false := by simpa using c9))
                      (try (have c9b3 : ¬ (((rd_T34 l0 x6_1).f0.f0) = ((rd_T34 l1 x7_2).f0.f0) && (((rd_T34 l0 x6_1).f0.f1) == ((rd_T34 l1 x7_2).f0.f1))) := by simpa using c9))
                      clear c9
                      have H' := Aside0.mk H
                      clear H
                      have p200 : 0 ≤ (x6_1 : Int) := of_decide_eq_true (by first | (with_reducible assumption) | assumption)
                      have q200 : x6_1 < (l0.length : Int) := of_decide_eq_true (by first | (with_reducible assumption) | assumption)
                      obtain ⟨ad200, e200, hx200_0, hx200_1, hx200_2, hx200_3, hx200_4, hx200_5, hx200_6, hx200_7, hx200_8, hx200_9, hx200_10, hx200_11, hx200_12, hx200_13⟩ := at_T34 HR0.out x6_1 p200 q200
                      cases e200
                      replace hx200_0 := (HB.out.cell (World.block_lt_of_cell? w _ hx200_0)).trans hx200_0
                      replace hx200_1 := (HB.out.cell (World.block_lt_of_cell? w _ hx200_1)).trans hx200_1
                      replace hx200_2 := (HB.out.cell (World.block_lt_of_cell? w _ hx200_2)).trans hx200_2
                      replace hx200_3 := (HB.out.cell (World.block_lt_of_cell? w _ hx200_3)).trans hx200_3
                      replace hx200_4 := (HB.out.cell (World.block_lt_of_cell? w _ hx200_4)).trans hx200_4
                      replace hx200_5 := (HB.out.cell (World.block_lt_of_cell? w _ hx200_5)).trans hx200_5
                      replace hx200_6 := (HB.out.cell (World.block_lt_of_cell? w _ hx200_6)).trans hx200_6
                      replace hx200_7 := (HB.out.cell (World.block_lt_of_cell? w _ hx200_7)).trans hx200_7
                      replace hx200_8 := (HB.out.cell (World.block_lt_of_cell? w _ hx200_8)).trans hx200_8
                      replace hx200_9 := (HB.out.cell (World.block_lt_of_cell? w _ hx200_9)).trans hx200_9
                      replace hx200_10 := (HB.out.cell (World.block_lt_of_cell? w _ hx200_10)).trans hx200_10
                      replace hx200_11 := (HB.out.cell (World.block_lt_of_cell? w _ hx200_11)).trans hx200_11
                      replace hx200_12 := (HB.out.cell (World.block_lt_of_cell? w _ hx200_12)).trans hx200_12
                      replace hx200_13 := (HB.out.cell (World.block_lt_of_cell? w _ hx200_13)).trans hx200_13
                      replace p200 := eq_true p200
                      replace q200 := eq_true q200
                      have p201 : 0 ≤ (x7_2 : Int) := of_decide_eq_true (by first | (with_reducible assumption) | assumption)
                      have q201 : x7_2 < (l1.length : Int) := of_decide_eq_true (by first | (with_reducible assumption) | assumption)
                      obtain ⟨ad201, e201, hx201_0, hx201_1, hx201_2, hx201_3, hx201_4, hx201_5, hx201_6, hx201_7, hx201_8, hx201_9, hx201_10, hx201_11, hx201_12, hx201_13⟩ := at_T34 HR1.out x7_2 p201 q201
                      cases e201
                      replace hx201_0 := (HB.out.cell (World.block_lt_of_cell? w _ hx201_0)).trans hx201_0
                      replace hx201_1 := (HB.out.cell (World.block_lt_of_cell? w _ hx201_1)).trans hx201_1
                      replace hx201_2 := (HB.out.cell (World.block_lt_of_cell? w _ hx201_2)).trans hx201_2
                      replace hx201_3 := (HB.out.cell (World.block_lt_of_cell? w _ hx201_3)).trans hx201_3
                      replace hx201_4 := (HB.out.cell (World.block_lt_of_cell? w _ hx201_4)).trans hx201_4
                      replace hx201_5 := (HB.out.cell (World.block_lt_of_cell? w _ hx201_5)).trans hx201_5
                      replace hx201_6 := (HB.out.cell (World.block_lt_of_cell? w _ hx201_6)).trans hx201_6
                      replace hx201_7 := (HB.out.cell (World.block_lt_of_cell? w _ hx201_7)).trans hx201_7
                      replace hx201_8 := (HB.out.cell (World.block_lt_of_cell? w _ hx201_8)).trans hx201_8
                      replace hx201_9 := (HB.out.cell (World.block_lt_of_cell? w _ hx201_9)).trans hx201_9
                      replace hx201_10 := (HB.out.cell (World.block_lt_of_cell? w _ hx201_10)).trans hx201_10
                      replace hx201_11 := (HB.out.cell (World.block_lt_of_cell? w _ hx201_11)).trans hx201_11
                      replace hx201_12 := (HB.out.cell (World.block_lt_of_cell? w _ hx201_12)).trans hx201_12
                      replace hx201_13 := (HB.out.cell (World.block_lt_of_cell? w _ hx201_13)).trans hx201_13
                      replace p201 := eq_true p201
                      replace q201 := eq_true q201
                      go_wp2
                      repeat (go_quiet (fail); try go_wp2)
                      go_roundg k2
                      case measure => have := HK1.out; have := HK2.out; omega
                      case rel => exact ⟨(wrap64 (x7_2 + 1)), (x200000_2), (x200001_2), (by first | rfl | (simp; done) | (simp [*]; done)), H', ⟨by have := HK1.out; have := HK2.out; omega⟩, ⟨by (with_reducible repeat (first | refine blk_drewN ?_ _ | refine blk_drew ?_ | refine blk_alloc ?_ _)); exact BK199.out⟩, ⟨by repeat (first | (with_reducible first | exact HB.out | apply below_alloc | apply pw_below_drewN | apply below_drew1 | refine below_set ?_ GE199.out) | exact HB.out)⟩⟩
                  · rw [if_neg c8] at H
                    exact absurd H (by simp)
                · rw [if_neg c7] at H
                  exact absurd H (by simp)
              · rw [if_neg c6] at H
                exact absurd H (by simp)
            · rw [if_neg c5] at H
              have c5b0 : decide (x7_2 < (l1.length : Int)) = false := decide_eq_false c5
              clear c5
              have H' := Aside0.mk H
              clear H
              go_wp2
              repeat (go_quiet (fail); try go_wp2)
              go_roundg k2
              case measure => have := HK1.out; have := HK2.out; omega
              case rel => exact ⟨(wrap64 (x6_1 - 1)), (x200000_2), (x200001_2), (by first | rfl | (simp; done) | (simp [*]; done)), H', ⟨by have := HK1.out; have := HK2.out; omega⟩, ⟨by (with_reducible repeat (first | refine blk_drewN ?_ _ | refine blk_drew ?_ | refine blk_alloc ?_ _)); exact BK199.out⟩, ⟨by repeat (first | (with_reducible first | exact HB.out | apply below_alloc | apply pw_below_drewN | apply below_drew1 | refine below_set ?_ GE199.out) | exact HB.out)⟩⟩
      · rw [if_neg c4] at H
        have c4b0 : decide (0 ≤ x6_1) = false := decide_eq_false c4
        clear c4
        simp only [Option.some.injEq, Prod.mk.injEq] at H
        obtain ⟨rfl, rfl, rfl⟩ := H
        have hcz12_0 : wr.cell? ⟨gb199, 0, none⟩ = some (.int .i64 x200000_1) := (blk_cell BK199.out 0).trans rfl
        have hcz12_1 : wr.cell? ⟨gb199, 1, none⟩ = some (.int .i64 x200001_1) := (blk_cell BK199.out 1).trans rfl
        have hfz12_0 := blk_frozen BK199.out 0
        have hfz12_1 := blk_frozen BK199.out 1
        go_wp2
        repeat (go_quiet (fail); try go_wp2)
        refine bodyPost_ret (results_ct rfl _ _ gb199 24 #[.int .i64 0, .int .i64 0] (0, 0) _ rfl (by (with_reducible repeat (first | refine blk_drewN ?_ _ | refine blk_drew ?_ | refine blk_alloc ?_ _)); refine blk_put (cs := #[.int .i64 0, .int .i64 x200001_1]) ?_ 1 _ rfl; (with_reducible repeat (first | refine blk_drewN ?_ _ | refine blk_drew ?_ | refine blk_alloc ?_ _)); refine blk_put (cs := #[.int .i64 x200000_1, .int .i64 x200001_1]) ?_ 0 _ rfl; (with_reducible repeat (first | refine blk_drewN ?_ _ | refine blk_drew ?_ | refine blk_alloc ?_ _)); exact BK199.out) Try.underlying24 rfl (by kernel_rfl)) rfl ?_
        exact ⟨by first | rfl | (simp [errW_none, errW_some] <;> rfl) | (simp [*, errW_none, errW_some] <;> rfl), by repeat (first | (with_reducible first | exact HB.out | apply below_alloc | apply pw_below_drewN | apply below_drew1 | refine below_set ?_ GE199.out) | exact HB.out)⟩
end Go.Proofs.Ytbdciklcckjknaa.P
namespace Go.Proofs.Ytbdciklcckjknaa.P
open Go.RowKit Go.Proofs.YtbdciklcckjknaaW.PrintWords Go.Proofs.YtbdciklcckjknaaW.PrintLast Go.Proofs.YtbdciklcckjknaaW.PrintMore
attribute [local go_sem] max2_int min2_int max_two min_two max_three min_three max_four min_four
set_option linter.unusedVariables false
set_option linter.unusedSimpArgs false
attribute [local go_sem high] eqA24
def reefref21_Copy.f (l0 : List (S34)) : Option ((List (S34))) := if ([] : List (S34)).length + l0.length < 1034834473200 then (some (([] : List (S34)) ++ l0)) else (none)
set_option maxHeartbeats 8000000 in
set_option maxRecDepth 100000 in
theorem reefref21_Copy.calls (A0 : Option Addr) (c0 : Nat) (l0 : List (S34)) (r : List (S34)) (w : World) (hr0 : Kd.C k34 w A0 l0.length l0) (hc0 : l0.length ≤ c0) (h : reefref21_Copy.f l0 = some r) :
    Calls Try.prog 12 #[.slice A0 l0.length c0] w fun e w' => ∃ v0_ : Value, e = .returned (v0_) ∧ Kd.R k34 34 w' w.heap.size (fun _ => True) v0_ r ∧ Below w.heap.size w w' := by
  have HR0 := Aside0.mk hr0
  have HC0 := Aside0.mk hc0
  clear hr0 hc0
  have HB := Aside0.mk (Below.refl w.heap.size w)
  have H : (if ([] : List (S34)).length + l0.length < 1034834473200 then (some (([] : List (S34)) ++ l0)) else (none)) = some r := h
  clear h
  by_cases c2 : ([] : List (S34)).length + l0.length < 1034834473200
  · rw [if_pos c2] at H
    have LMc2 := Aside0.mk c2
    clear c2
    obtain ⟨y161, hy161⟩ : ∃ y_ : List (S34), y_ = (([] : List (S34)) ++ l0) := ⟨_, rfl⟩
    replace H : (some y161) = some r := by first | (rw [hy161]; with_reducible exact H) | (have H2_ := (Option.bind_some _ _).symm.trans H; rw [hy161]; with_reducible exact H2_) | (have H2_ := (Option.bind_some _ _).symm.trans H; with_reducible exact H2_) | with_reducible exact H | (rw [hy161]; exact H) | exact H
    have Ny161 := Aside0.mk hy161
    clear hy161
    obtain rfl := Option.some.inj H
    go_enter Try.func12, Try.ntmps12
    go_wp2_with (first | ((with_reducible refine gate_builtin (b := .append) (xs := #[.tmp 4, .tmp 5]) rfl ?_); at_builtin; refine Kd.R_append_rows k34 (w0 := w) w.heap.size rfl (.tmp 4) (.tmp 5) 22 34 (.agg #[(.int .i64 0), (.int .i64 0), (.int .i64 0), (.int .i64 0), (.int .i64 0), (.int .i64 0), (.string ⟨#[]⟩), (.int .i64 0), (.int .i64 0), (.string ⟨#[]⟩), (.int .i64 0), (.int .i64 0), (.int .i64 0), (.string ⟨#[]⟩)]) 136 rfl Try.underlying22 info34 rfl (by decide) (by omega) (.slice none 0 0) ([] : List (S34)) l0 _ _ _ (fun _ => True) (fun _ => False) rfl rfl ?aO ?aR (fun _ _ h => h) (fun _ h => h.elim) ?aF ?aB ?aS ?aL ?_; (case aR => repeat (first | exact HR0.out | (with_reducible refine Kd.C_alloc ?_ _) | (with_reducible refine Kd.C_drewN ?_ _) | (with_reducible refine Kd.C_drew ?_))); (case aB => exact (by repeat (first | (with_reducible first | exact HB.out | apply below_alloc | apply pw_below_drewN | apply below_drew1) | exact HB.out))); (case aF => exact (fun _ _ => trivial)); (case aO => exact ((Kd.R_nil _ _ _ _ (fun _ => True)))); (case aS => exact (below_size (by repeat (first | (with_reducible first | exact HB.out | apply below_alloc | apply pw_below_drewN | apply below_drew1) | exact HB.out)))); (case aL => have := LMc2.out; omega); intro v162 w3 ho hb hg hat; rw [← Ny161.out] at ho; have n0_ := Aside0.mk (hb); have n1_ := Aside0.mk (ho); clear HB; have HB := n0_; have HO163 := n1_; clear n0_ n1_; clear ho hb hg hat))
    go_ret
    exact ⟨_, by first | rfl | (simp [errW_none, errW_some] <;> rfl) | (simp [*, errW_none, errW_some] <;> rfl), by (with_reducible repeat (first | apply Kd.R_alloc | apply Kd.R_drewN | apply Kd.R_drew)); exact HO163.out, by repeat (first | (with_reducible first | exact HB.out | apply below_alloc | apply pw_below_drewN | apply below_drew1) | exact HB.out)⟩
  · rw [if_neg c2] at H
    exact absurd H (by simp)
end Go.Proofs.Ytbdciklcckjknaa.P
namespace Go.Proofs.Ytbdciklcckjknaa.P
open Go.RowKit Go.Proofs.YtbdciklcckjknaaW.PrintWords Go.Proofs.YtbdciklcckjknaaW.PrintLast Go.Proofs.YtbdciklcckjknaaW.PrintMore Go.Proofs.YtbdciklcckjknaaW.HB
set_option linter.unusedVariables false
set_option linter.unusedSimpArgs false
theorem rlate_f (e v : Int) (x : S34) : reefref21_Later.f x.f0.f0 x.f0.f1 e v = some (lateB e v x) := lateB_f e v x
theorem rbehind_l0 (l : List S34) (hl : l.length ≤ 1000) (e v : Int) (d : Nat) : ∀ (k i : Nat) (acc : List S34), l.length = i + d → acc.length ≤ i → d < k →
    reefref21_Behind.l0 k l acc i e v = some (acc ++ (l.drop i).filter (lateB e v)) := by
  induction d with
  | zero =>
    intro k i acc h _ hk
    obtain ⟨k, rfl⟩ : ∃ k', k = k' + 1 := ⟨k - 1, by omega⟩
    simp only [reefref21_Behind.l0]
    rw [if_neg (by omega), List.drop_eq_nil_of_le (by omega), List.filter_nil, List.append_nil]
  | succ d ih =>
    intro k i acc h ha hk
    obtain ⟨k, rfl⟩ : ∃ k', k = k' + 1 := ⟨k - 1, by omega⟩
    have hi : i < l.length := by omega
    have hwi : wrap64 ((i : Int) + 1) = ((i + 1 : Nat) : Int) := by rw [wrap64_small _ (by omega) (by omega)]; omega
    simp only [reefref21_Behind.l0]
    rw [if_pos (by omega), if_pos (by omega), rlate_f, Option.bind_some, hwi, rd_at_N l i hi, List.drop_eq_getElem_cons hi]
    cases hb : lateB e v l[i] with
    | true =>
      rw [if_pos rfl, if_pos (by omega)]
      rw [ih k (i + 1) _ (by omega) (by simp; omega) (by omega), List.filter_cons_of_pos hb]
      simp
    | false =>
      rw [if_neg (by decide), ih k (i + 1) _ (by omega) (by omega) (by omega), List.filter_cons_of_neg (by simp [hb])]
theorem rbehind_eq (l : List S34) (hl : l.length ≤ 8) (e v : Int) : reefref21_Behind.f 40 l e v = pglog_Behind.f l e v := by
  unfold reefref21_Behind.f pglog_Behind.f
  rw [if_pos (by omega)]
  exact (rbehind_l0 l (by omega) e v l.length 40 0 [] (by omega) (by simp) (by omega)).trans (by simp)
def resC (a b : List S34) (i : Nat) : Int × Int × Bool := match (a.take i).reverse.find? (fun x => b.any (alikeB x)) with
  | some x => (x.f0.f0, x.f0.f1, true)
  | none => (0, 0, false)
theorem resC_succ (a b : List S34) (i : Nat) (hi : i < a.length) : resC a b (i + 1) = if b.any (alikeB a[i]) = true then (a[i].f0.f0, a[i].f0.f1, true) else resC a b i := by
  unfold resC
  rw [List.take_succ_eq_append_getElem hi, List.reverse_append, List.reverse_singleton, List.singleton_append, List.find?_cons]
  cases h : b.any (alikeB a[i]) with
  | true => simp
  | false => simp
theorem rcommon_l1 (a b : List S34) (hb : b.length ≤ 1000) (i : Nat) (hi : i < a.length) (ha : a.length ≤ 1000) (m : Nat)
    (h0 : ∀ k, m < k → reefref21_Common.l0 k a b ((i : Int) - 1) = some (resC a b i)) (d : Nat) : ∀ (k j : Nat), b.length = j + d → d + m + 1 < k →
    reefref21_Common.l1 k a b i j = some (if (b.drop j).any (alikeB a[i]) = true then (a[i].f0.f0, a[i].f0.f1, true) else resC a b i) := by
  induction d with
  | zero =>
    intro k j h hk
    obtain ⟨k, rfl⟩ : ∃ k', k = k' + 1 := ⟨k - 1, by omega⟩
    simp only [reefref21_Common.l1]
    rw [if_neg (by omega), List.drop_eq_nil_of_le (by omega), wrap64_small _ (by omega) (by omega), h0 k (by omega)]
    simp
  | succ d ih =>
    intro k j h hk
    obtain ⟨k, rfl⟩ : ∃ k', k = k' + 1 := ⟨k - 1, by omega⟩
    have hj : j < b.length := by omega
    have hwj : wrap64 ((j : Int) + 1) = ((j + 1 : Nat) : Int) := by rw [wrap64_small _ (by omega) (by omega)]; omega
    have hrec := ih k (j + 1) (by omega) (by omega)
    have hal := alikeB_f a[i] b[j]
    unfold pglog_alike.f at hal
    simp only [reefref21_Common.l1]
    rw [if_pos (by omega), if_pos (by omega), if_pos (by omega), if_pos (by omega), hwj, rd_at_N a i hi, rd_at_N b j hj, List.drop_eq_getElem_cons hj, List.any_cons]
    split
    · rename_i h1
      rw [if_pos h1] at hal
      split
      · rename_i h2
        rw [h2] at hal
        rw [← Option.some.inj hal]
        simp
      · rename_i h2
        rw [Bool.not_eq_true] at h2
        rw [h2] at hal
        rw [← Option.some.inj hal, Bool.false_or]
        exact hrec
    · rename_i h1
      rw [if_neg h1] at hal
      rw [← Option.some.inj hal, Bool.false_or]
      exact hrec
theorem rcommon_l0 (a b : List S34) (ha : a.length ≤ 1000) (hb : b.length ≤ 1000) (i : Nat) : ∀ k, i ≤ a.length → i * (b.length + 3) < k → reefref21_Common.l0 k a b ((i : Int) - 1) = some (resC a b i) := by
  induction i with
  | zero =>
    intro k _ hk
    obtain ⟨k, rfl⟩ : ∃ k', k = k' + 1 := ⟨k - 1, by omega⟩
    simp only [reefref21_Common.l0]
    rw [if_neg (by omega)]
    rfl
  | succ i ih =>
    intro k hi hk
    rw [Nat.succ_mul] at hk
    obtain ⟨k, rfl⟩ : ∃ k', k = k' + 1 := ⟨k - 1, by omega⟩
    have h0 := fun k' hk' => ih k' (by omega) hk'
    generalize i * (b.length + 3) = m at *
    have h := rcommon_l1 a b hb i (by omega) ha m h0 b.length k 0 (by omega) (by omega)
    rw [resC_succ a b i (by omega)]
    simp only [reefref21_Common.l0]
    rw [if_pos (by omega), show (((i + 1 : Nat) : Int) - 1) = (i : Int) from by omega]
    exact h
theorem rcommon_eq (a b : List S34) (ha : a.length ≤ 8) (hb : b.length ≤ 8) : reefref21_Common.f 100 a b = pglog_Common.f a b := by
  unfold reefref21_Common.f
  rw [wrap64_small _ (by omega) (by omega), rcommon_l0 a b (by omega) (by omega) a.length 100 (Nat.le_refl _) (by have : a.length * (b.length + 3) ≤ 8 * 11 := Nat.mul_le_mul ha (by omega); omega)]
  unfold resC pglog_Common.f
  rw [List.take_length]
  rfl
theorem rcopy_eq (l : List S34) (hl : l.length ≤ 8) : reefref21_Copy.f l = some l := by
  unfold reefref21_Copy.f
  rw [if_pos (by simp; omega)]
  rfl
end Go.Proofs.Ytbdciklcckjknaa.P
namespace Go.Proofs.Ytbdciklcckjknaa.P
open Go.RowKit Go.Proofs.YtbdciklcckjknaaW.PrintWords Go.Proofs.YtbdciklcckjknaaW.PrintLast Go.Proofs.YtbdciklcckjknaaW.PrintMore
attribute [local go_sem] max2_int min2_int max_two min_two max_three min_three max_four min_four
set_option linter.unusedVariables false
set_option linter.unusedSimpArgs false
def reeflaw21_texts.l0 : Nat → List ByteArray → List ByteArray → Int → Int → Option (Bool)
  | 0, _, _, _, _ => none
  | k + 1, x0, x1, x12, x13 => if x13 < x12 then (if 0 ≤ x13 then (if x13 < (x0.length : Int) then (if x13 < (x1.length : Int) then (if (rdOf ByteArray.empty x0 x13).toList = (rdOf ByteArray.empty x1 x13).toList then (reeflaw21_texts.l0 k x0 x1 x12 (wrap64 (x13 + 1))) else (some false)) else (none)) else (none)) else (none)) else (some true)
def reeflaw21_texts.f (k : Nat) (l0 : List ByteArray) (l1 : List ByteArray) : Option (Bool) := if (l0.length : Int) = (l1.length : Int) then (reeflaw21_texts.l0 k l0 l1 (l0.length : Int) 0) else (some false)
set_option maxHeartbeats 8000000 in
set_option maxRecDepth 100000 in
theorem reeflaw21_texts.calls (k : Nat) (A0 : Option Addr) (c0 : Nat) (l0 : List ByteArray) (A1 : Option Addr) (c1 : Nat) (l1 : List ByteArray) (r : Bool) (w : World) (hr0 : Kd.C Kd.string w A0 l0.length l0) (hc0 : l0.length ≤ c0) (hr1 : Kd.C Kd.string w A1 l1.length l1) (hc1 : l1.length ≤ c1) (h : reeflaw21_texts.f k l0 l1 = some r) :
    Calls Try.prog 17 #[.slice A0 l0.length c0, .slice A1 l1.length c1] w fun e w' => e = .returned (.bool r) ∧ Drawn0 w w' := by
  have HR0 := Aside0.mk hr0
  have HC0 := Aside0.mk hc0
  clear hr0 hc0
  have HR1 := Aside0.mk hr1
  have HC1 := Aside0.mk hc1
  clear hr1 hc1
  have H : (if (l0.length : Int) = (l1.length : Int) then (reeflaw21_texts.l0 k l0 l1 (l0.length : Int) 0) else (some false)) = some r := h
  clear h
  by_cases c3 : (l0.length : Int) = (l1.length : Int)
  · rw [if_pos c3] at H
    have c3b0 : ((l0.length : Int) == (l1.length : Int)) = true := beq_iff_eq.mpr c3
    have c3b1 : ((l0.length : Int) != (l1.length : Int)) = false := bne_eq_false_iff_eq.mpr c3
    have c3b2 : (l0.length == l1.length) = true := by first | simpa using c3 | (simp at c3 ⊢; omega)
    clear c3
    have H' := Aside0.mk H
    clear H
    go_enter Try.func17, Try.ntmps17
    go_wp2
    repeat (go_quiet (fail); try go_wp2)
    go_loopg [13] k (fun kq v13 w' => ∃ (x13_1 : Int), v13 = .int .i64 x13_1 ∧ Aside0 (reeflaw21_texts.l0 kq l0 l1 (l0.length : Int) x13_1 = some r) ∧ Aside0 (kq ≤ k) ∧ Drawn0 w w')
    case atStart => exact ⟨(0), (by first | rfl | (simp; done) | (simp [*]; done)), H', ⟨Nat.le_refl _⟩, by repeat (first | exact Drawn0.refl _ | apply Drawn0.step)⟩
    case round =>
      clear H'
      try clear c1
      try clear p2
      try clear c3
      try clear c3b0
      try clear c3b1
      try clear c3b2
      obtain ⟨x13_1, rfl, HA, HK1, ⟨m1, rfl⟩⟩ := hrel
      cases gk with
      | zero => exact absurd HA.out (by simp [reeflaw21_texts.l0])
      | succ k1 =>
        have H := HA.out
        clear HA
        simp only [reeflaw21_texts.l0] at H
        by_cases c4 : x13_1 < (l0.length : Int)
        · rw [if_pos c4] at H
          have c4b0 : decide (x13_1 < (l0.length : Int)) = true := decide_eq_true c4
          clear c4
          by_cases c5 : 0 ≤ x13_1
          · rw [if_pos c5] at H
            have c5b0 : decide (0 ≤ x13_1) = true := decide_eq_true c5
            clear c5
            by_cases c6 : x13_1 < (l0.length : Int)
            · rw [if_pos c6] at H
              have c6b0 : decide (x13_1 < (l0.length : Int)) = true := decide_eq_true c6
              clear c6
              by_cases c7 : x13_1 < (l1.length : Int)
              · rw [if_pos c7] at H
                have c7b0 : decide (x13_1 < (l1.length : Int)) = true := decide_eq_true c7
                clear c7
                by_cases c8 : (rdOf ByteArray.empty l0 x13_1).toList = (rdOf ByteArray.empty l1 x13_1).toList
                · rw [if_pos c8] at H
                  have c8b0 : ((rdOf ByteArray.empty l0 x13_1).toList == (rdOf ByteArray.empty l1 x13_1).toList) = true := beq_iff_eq.mpr c8
                  have c8b1 : ((rdOf ByteArray.empty l0 x13_1).toList != (rdOf ByteArray.empty l1 x13_1).toList) = false := bne_eq_false_iff_eq.mpr c8
                  clear c8
                  have H' := Aside0.mk H
                  clear H
                  have p188 : 0 ≤ (x13_1 : Int) := of_decide_eq_true (by first | (with_reducible assumption) | assumption)
                  have q188 : x13_1 < (l0.length : Int) := of_decide_eq_true (by first | (with_reducible assumption) | assumption)
                  obtain ⟨ad188, e188, hx188_0⟩ := Kd.at_string HR0.out x13_1 p188 q188
                  cases e188
                  replace p188 := eq_true p188
                  replace q188 := eq_true q188
                  have p189 : 0 ≤ (x13_1 : Int) := of_decide_eq_true (by first | (with_reducible assumption) | assumption)
                  have q189 : x13_1 < (l1.length : Int) := of_decide_eq_true (by first | (with_reducible assumption) | assumption)
                  obtain ⟨ad189, e189, hx189_0⟩ := Kd.at_string HR1.out x13_1 p189 q189
                  cases e189
                  replace p189 := eq_true p189
                  replace q189 := eq_true q189
                  go_wp2
                  repeat (go_quiet (fail); try go_wp2)
                  go_roundg k1
                  case measure => have := HK1.out; omega
                  case rel => exact ⟨(wrap64 (x13_1 + 1)), (by first | rfl | (simp; done) | (simp [*]; done)), H', ⟨by have := HK1.out; omega⟩, by repeat (first | exact Drawn0.refl _ | apply Drawn0.step)⟩
                · rw [if_neg c8] at H
                  have c8b0 : ((rdOf ByteArray.empty l0 x13_1).toList == (rdOf ByteArray.empty l1 x13_1).toList) = false := beq_eq_false_iff_ne.mpr c8
                  have c8b1 : ((rdOf ByteArray.empty l0 x13_1).toList != (rdOf ByteArray.empty l1 x13_1).toList) = true := bne_iff_ne.mpr c8
                  obtain rfl := Option.some.inj H
                  have p188 : 0 ≤ (x13_1 : Int) := of_decide_eq_true (by first | (with_reducible assumption) | assumption)
                  have q188 : x13_1 < (l0.length : Int) := of_decide_eq_true (by first | (with_reducible assumption) | assumption)
                  obtain ⟨ad188, e188, hx188_0⟩ := Kd.at_string HR0.out x13_1 p188 q188
                  cases e188
                  replace p188 := eq_true p188
                  replace q188 := eq_true q188
                  have p189 : 0 ≤ (x13_1 : Int) := of_decide_eq_true (by first | (with_reducible assumption) | assumption)
                  have q189 : x13_1 < (l1.length : Int) := of_decide_eq_true (by first | (with_reducible assumption) | assumption)
                  obtain ⟨ad189, e189, hx189_0⟩ := Kd.at_string HR1.out x13_1 p189 q189
                  cases e189
                  replace p189 := eq_true p189
                  replace q189 := eq_true q189
                  go_wp2
                  repeat (go_quiet (fail); try go_wp2)
                  go_ret
                  exact ⟨by first | rfl | (simp; done) | (simp [*]; done), by repeat (first | exact Drawn0.refl _ | apply Drawn0.step)⟩
              · rw [if_neg c7] at H
                exact absurd H (by simp)
            · rw [if_neg c6] at H
              exact absurd H (by simp)
          · rw [if_neg c5] at H
            exact absurd H (by simp)
        · rw [if_neg c4] at H
          have c4b0 : decide (x13_1 < (l0.length : Int)) = false := decide_eq_false c4
          clear c4
          obtain rfl := Option.some.inj H
          go_wp2
          repeat (go_quiet (fail); try go_wp2)
          go_ret
          exact ⟨by first | rfl | (simp; done) | (simp [*]; done), by repeat (first | exact Drawn0.refl _ | apply Drawn0.step)⟩
  · rw [if_neg c3] at H
    have c3b0 : ((l0.length : Int) == (l1.length : Int)) = false := beq_eq_false_iff_ne.mpr c3
    have c3b1 : ((l0.length : Int) != (l1.length : Int)) = true := bne_iff_ne.mpr c3
    have c3b2 : (l0.length == l1.length) = false := by first | simpa using c3 | (simp at c3 ⊢; omega)
    obtain rfl := Option.some.inj H
    go_enter Try.func17, Try.ntmps17
    go_wp2
    repeat (go_quiet (fail); try go_wp2)
    go_ret
    exact ⟨by first | rfl | (simp; done) | (simp [*]; done), by repeat (first | exact Drawn0.refl _ | apply Drawn0.step)⟩
end Go.Proofs.Ytbdciklcckjknaa.P
