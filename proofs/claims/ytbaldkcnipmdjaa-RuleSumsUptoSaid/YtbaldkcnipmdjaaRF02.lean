/- Texts of this claim, merged by pack.py: PCrushAhead C4 HK2 -/
import Derived.Test.YtbaldkcnipmdjaaRF01
import Derived.BigRegionIn
import Derived.RangeFuncNested
import Derived.WalkMore
import Derived.CallsIn
namespace Go.Proofs.Ytbaldkcnipmdjaa.P
open Go.RowKit Go.Proofs.YtbaldkcnipmdjaaW.PrintWords Go.Proofs.YtbaldkcnipmdjaaW.PrintLast Go.Proofs.YtbaldkcnipmdjaaW.PrintMore
attribute [local go_sem] max2_int min2_int max_two min_two max_three min_three max_four min_four
set_option linter.unusedVariables false
set_option linter.unusedSimpArgs false
def crush_ahead.j0 : Nat → Int → Int → Int → Int → Bool → Int → Int → Int → Int → Int → Int → Int → Int → Option (Int)
  | 0, _, _, _, _, _, _, _, _, _, _, _, _, _ => none
  | k + 1, x5, x6, x7, x8, x31, x107000, x107001, x107002, x107003, x108000, x108001, x108002, x108003 => if x31 = true then (some (-1)) else (if x5 = x7 then (if x6 = x8 then (some (wrap64 (x107002 - x108002))) else (some 1)) else (some 1))
def crush_ahead.f (k : Nat) (a0_0 : Int) (a0_1 : Int) (a0_2 : Int) (a0_3 : Int) (a1_0 : Int) (a1_1 : Int) (a1_2 : Int) (a1_3 : Int) : Option (Int) := (bits_Mul64.f (IntKind.u64.wrap (a0_3)) (IntKind.u64.wrap (a1_1))).bind fun bt108 => ((bits_Mul64.f (IntKind.u64.wrap (a1_3)) (IntKind.u64.wrap (a0_1))).bind fun bt110 => (if bt108.1 < bt110.1 then (crush_ahead.j0 k bt108.1 bt108.2 bt110.1 bt110.2 true a0_0 a0_1 a0_2 a0_3 a1_0 a1_1 a1_2 a1_3) else (if bt108.1 = bt110.1 then (crush_ahead.j0 k bt108.1 bt108.2 bt110.1 bt110.2 (decide (bt108.2 < bt110.2)) a0_0 a0_1 a0_2 a0_3 a1_0 a1_1 a1_2 a1_3) else (crush_ahead.j0 k bt108.1 bt108.2 bt110.1 bt110.2 false a0_0 a0_1 a0_2 a0_3 a1_0 a1_1 a1_2 a1_3))))
set_option maxHeartbeats 8000000 in
set_option maxRecDepth 100000 in
theorem crush_ahead.calls (k : Nat) (a0_0 : Int) (a0_1 : Int) (a0_2 : Int) (a0_3 : Int) (a1_0 : Int) (a1_1 : Int) (a1_2 : Int) (a1_3 : Int) (r : Int) (w : World) (h : crush_ahead.f k a0_0 a0_1 a0_2 a0_3 a1_0 a1_1 a1_2 a1_3 = some r) :
    Calls Try.prog 57 #[.agg #[.int .i64 a0_0, .int .i64 a0_1, .int .i64 a0_2, .int .i64 a0_3], .agg #[.int .i64 a1_0, .int .i64 a1_1, .int .i64 a1_2, .int .i64 a1_3]] w fun e w' => e = .returned (.int .i64 r) ∧ Below w.heap.size w w' := by
  have hu75 := Try.underlying75
  have HB := Aside0.mk (Below.refl w.heap.size w)
  have H : ((bits_Mul64.f (IntKind.u64.wrap (a0_3)) (IntKind.u64.wrap (a1_1))).bind fun bt108 => ((bits_Mul64.f (IntKind.u64.wrap (a1_3)) (IntKind.u64.wrap (a0_1))).bind fun bt110 => (if bt108.1 < bt110.1 then (crush_ahead.j0 k bt108.1 bt108.2 bt110.1 bt110.2 true a0_0 a0_1 a0_2 a0_3 a1_0 a1_1 a1_2 a1_3) else (if bt108.1 = bt110.1 then (crush_ahead.j0 k bt108.1 bt108.2 bt110.1 bt110.2 (decide (bt108.2 < bt110.2)) a0_0 a0_1 a0_2 a0_3 a1_0 a1_1 a1_2 a1_3) else (crush_ahead.j0 k bt108.1 bt108.2 bt110.1 bt110.2 false a0_0 a0_1 a0_2 a0_3 a1_0 a1_1 a1_2 a1_3))))) = some r := h
  clear h
  replace H := Option.bind_eq_some_iff.mp H
  obtain ⟨⟨t108, t109⟩, A30, H⟩ := H
  replace H : ((bits_Mul64.f (IntKind.u64.wrap (a1_3)) (IntKind.u64.wrap (a0_1))).bind fun bt110 => (if t108 < bt110.1 then (crush_ahead.j0 k t108 t109 bt110.1 bt110.2 true a0_0 a0_1 a0_2 a0_3 a1_0 a1_1 a1_2 a1_3) else (if t108 = bt110.1 then (crush_ahead.j0 k t108 t109 bt110.1 bt110.2 (decide (t109 < bt110.2)) a0_0 a0_1 a0_2 a0_3 a1_0 a1_1 a1_2 a1_3) else (crush_ahead.j0 k t108 t109 bt110.1 bt110.2 false a0_0 a0_1 a0_2 a0_3 a1_0 a1_1 a1_2 a1_3)))) = some r := H
  have A3 := Aside0.mk A30
  clear A30
  replace H := Option.bind_eq_some_iff.mp H
  obtain ⟨⟨t110, t111⟩, A40, H⟩ := H
  replace H : (if t108 < t110 then (crush_ahead.j0 k t108 t109 t110 t111 true a0_0 a0_1 a0_2 a0_3 a1_0 a1_1 a1_2 a1_3) else (if t108 = t110 then (crush_ahead.j0 k t108 t109 t110 t111 (decide (t109 < t111)) a0_0 a0_1 a0_2 a0_3 a1_0 a1_1 a1_2 a1_3) else (crush_ahead.j0 k t108 t109 t110 t111 false a0_0 a0_1 a0_2 a0_3 a1_0 a1_1 a1_2 a1_3))) = some r := H
  have A4 := Aside0.mk A40
  clear A40
  have HC5 := Aside0.mk H
  clear H
  go_enter Try.func57, Try.ntmps57
  go_upto_region 3 with (first | ((with_reducible refine gate_dst (N := 2) rfl ?_); refine box_event ?hg (N := 2) ?hd (cs := #[.int .i64 a0_0, .int .i64 a0_1, .int .i64 a0_2, .int .i64 a0_3]) (t := 75) ?hr ?_; (case hd => rfl); (case hg => rfl); (case hr => first | (go_simp; done) | (go_simp; rfl)); intro gb106 hg w6 hbox hb; have n0_ := Aside0.mk (below_step (by repeat (first | (with_reducible first | exact HB.out | apply below_alloc | apply pw_below_drewN | apply below_drew1) | exact HB.out)) hb); have n1_ := Aside0.mk (hbox); have n2_ := Aside0.mk ((by rw [hg]; exact (below_size (by repeat (first | (with_reducible first | exact HB.out | apply below_alloc | apply pw_below_drewN | apply below_drew1) | exact HB.out))) : w.heap.size ≤ gb106)); have n3_ := Aside0.mk ((by rw [hg]; exact (below_size (by repeat (first | (with_reducible first | exact HB.out | apply below_alloc | apply pw_below_drewN | apply below_drew1) | exact HB.out))) : w.heap.size ≤ gb106)); clear HB; have HB := n0_; have BK106 := n1_; have GW106 := n2_; have GE106 := n3_; clear n0_ n1_ n2_ n3_; clear hb hbox hg) | ((with_reducible refine gate_dst (N := 3) rfl ?_); refine box_event ?hg (N := 3) ?hd (cs := #[.int .i64 a1_0, .int .i64 a1_1, .int .i64 a1_2, .int .i64 a1_3]) (t := 75) ?hr ?_; (case hd => rfl); (case hg => rfl); (case hr => first | (go_simp; done) | (go_simp; rfl)); intro gb107 hg w7 hbox hb; have n0_ := Aside0.mk (blk_below (g := gb106) (o := .cells #[.int .i64 a0_0, .int .i64 a0_1, .int .i64 a0_2, .int .i64 a0_3] 75 (0, 0)) (by (with_reducible repeat (first | refine blk_drewN ?_ _ | refine blk_drew ?_ | refine blk_alloc ?_ _)); exact BK106.out) hb); have n1_ := Aside0.mk (below_step (by repeat (first | (with_reducible first | exact HB.out | apply below_alloc | apply pw_below_drewN | apply below_drew1 | refine below_set ?_ GE106.out) | exact HB.out)) hb); have n2_ := Aside0.mk (hbox); have n3_ := Aside0.mk ((by rw [hg]; exact (below_size (by repeat (first | (with_reducible first | exact HB.out | apply below_alloc | apply pw_below_drewN | apply below_drew1 | refine below_set ?_ GE106.out) | exact HB.out))) : w.heap.size ≤ gb107)); have n4_ := Aside0.mk ((by rw [hg]; exact (below_size (by repeat (first | (with_reducible first | exact HB.out | apply below_alloc | apply pw_below_drewN | apply below_drew1 | refine below_set ?_ GE106.out) | exact HB.out))) : w.heap.size ≤ gb107)); have n5_ := Aside0.mk ((by rw [hg]; exact Nat.ne_of_lt (blk_lt (g := gb106) (o := .cells #[.int .i64 a0_0, .int .i64 a0_1, .int .i64 a0_2, .int .i64 a0_3] 75 (0, 0)) (by (with_reducible repeat (first | refine blk_drewN ?_ _ | refine blk_drew ?_ | refine blk_alloc ?_ _)); exact BK106.out)) : gb106 ≠ gb107)); have n6_ := Aside0.mk ((by rw [hg]; exact Nat.ne_of_gt (blk_lt (g := gb106) (o := .cells #[.int .i64 a0_0, .int .i64 a0_1, .int .i64 a0_2, .int .i64 a0_3] 75 (0, 0)) (by (with_reducible repeat (first | refine blk_drewN ?_ _ | refine blk_drew ?_ | refine blk_alloc ?_ _)); exact BK106.out)) : gb107 ≠ gb106)); clear BK106; clear HB; have BK106 := n0_; have HB := n1_; have BK107 := n2_; have GW107 := n3_; have GE107 := n4_; have NB106_107 := n5_; have NB107_106 := n6_; clear n0_ n1_ n2_ n3_ n4_ n5_ n6_; clear hb hbox hg; have hnb8 := NB106_107.out; have hnc8 := NB107_106.out; have hcz9_0 : w7.cell? ⟨gb106, 0, none⟩ = some (.int .i64 a0_0) := (blk_cell BK106.out 0).trans rfl; have hcz9_1 : w7.cell? ⟨gb106, 1, none⟩ = some (.int .i64 a0_1) := (blk_cell BK106.out 1).trans rfl; have hcz9_2 : w7.cell? ⟨gb106, 2, none⟩ = some (.int .i64 a0_2) := (blk_cell BK106.out 2).trans rfl; have hcz9_3 : w7.cell? ⟨gb106, 3, none⟩ = some (.int .i64 a0_3) := (blk_cell BK106.out 3).trans rfl; have hfz9_0 := blk_frozen BK106.out 0; have hfz9_1 := blk_frozen BK106.out 1; have hfz9_2 := blk_frozen BK106.out 2; have hfz9_3 := blk_frozen BK106.out 3; have hcz10_0 : w7.cell? ⟨gb107, 0, none⟩ = some (.int .i64 a1_0) := (blk_cell BK107.out 0).trans rfl; have hcz10_1 : w7.cell? ⟨gb107, 1, none⟩ = some (.int .i64 a1_1) := (blk_cell BK107.out 1).trans rfl; have hcz10_2 : w7.cell? ⟨gb107, 2, none⟩ = some (.int .i64 a1_2) := (blk_cell BK107.out 2).trans rfl; have hcz10_3 : w7.cell? ⟨gb107, 3, none⟩ = some (.int .i64 a1_3) := (blk_cell BK107.out 3).trans rfl; have hfz10_0 := blk_frozen BK107.out 0; have hfz10_1 := blk_frozen BK107.out 1; have hfz10_2 := blk_frozen BK107.out 2; have hfz10_3 := blk_frozen BK107.out 3) | ((with_reducible refine gate_callee (f := 68) rfl ?_); refine goesL_ (some 17) rfl rfl Try.func68 (by kernel_rfl) rfl #[.int .u64 (IntKind.u64.wrap (a0_3)), .int .u64 (IntKind.u64.wrap (a1_1))] rfl (by (try simp only [List.map_toArray, List.map_cons, List.map_nil]); first | done | rfl | (simp only [List.length_drop, List.length_take]; rfl)) ?_; (with_reducible refine (bits_Mul64.calls (IntKind.u64.wrap (a0_3)) (IntKind.u64.wrap (a1_1)) t108 t109 _ A3.out).mono ?_); rintro e w' ⟨rfl, ⟨nd, rfl⟩⟩; refine ⟨_, rfl, ?_⟩) | ((with_reducible refine gate_callee (f := 68) rfl ?_); refine goesL_ (some 28) rfl rfl Try.func68 (by kernel_rfl) rfl #[.int .u64 (IntKind.u64.wrap (a1_3)), .int .u64 (IntKind.u64.wrap (a0_1))] rfl (by (try simp only [List.map_toArray, List.map_cons, List.map_nil]); first | done | rfl | (simp only [List.length_drop, List.length_take]; rfl)) ?_; (with_reducible refine (bits_Mul64.calls (IntKind.u64.wrap (a1_3)) (IntKind.u64.wrap (a0_1)) t110 t111 _ A4.out).mono ?_); rintro e w' ⟨rfl, ⟨nd, rfl⟩⟩; refine ⟨_, rfl, ?_⟩))
  (try simp only [Act.put, List.setIfInBounds_toArray, List.set_cons_zero, List.set_cons_succ])
  go_cut [31] (fun v31 wc => ∃ (kq : Nat) (x31_4 : Bool), v31 = .bool x31_4 ∧ Aside0 (crush_ahead.j0 kq t108 t109 t110 t111 x31_4 a0_0 a0_1 a0_2 a0_3 a1_0 a1_1 a1_2 a1_3 = some r) ∧ Aside0 (kq ≤ k) ∧ Aside0 (wc.heap[gb106]? = some (.cells #[.int .i64 a0_0, .int .i64 a0_1, .int .i64 a0_2, .int .i64 a0_3] 75 (0, 0))) ∧ Aside0 (wc.heap[gb107]? = some (.cells #[.int .i64 a1_0, .int .i64 a1_1, .int .i64 a1_2, .int .i64 a1_3] 75 (0, 0))) ∧ Aside0 (Below w.heap.size w wc))
  case first =>
    have H := HC5.out
    clear HC5
    by_cases c11 : t108 < t110
    · rw [if_pos c11] at H
      have c11b0 : decide (t108 < t110) = true := decide_eq_true c11
      clear c11
      (first | rw [c11b0] | (simp only [i64_w, i32_w]; rw [c11b0]) | skip)
      have H' := Aside0.mk H
      clear H
      go_wp2
      go_meet
      case rel => exact ⟨_, (true), (by first | rfl | (simp; done) | (simp [*]; done)), H', ⟨by first | omega | exact Nat.le_refl _⟩, ⟨by (with_reducible repeat (first | refine blk_drewN ?_ _ | refine blk_drew ?_ | refine blk_alloc ?_ _)); exact BK106.out⟩, ⟨by (with_reducible repeat (first | refine blk_drewN ?_ _ | refine blk_drew ?_ | refine blk_alloc ?_ _)); exact BK107.out⟩, ⟨by repeat (first | (with_reducible first | exact HB.out | apply below_alloc | apply pw_below_drewN | apply below_drew1 | refine below_set ?_ GE106.out | refine below_set ?_ GE107.out) | exact HB.out)⟩⟩
    · rw [if_neg c11] at H
      have c11b0 : decide (t108 < t110) = false := decide_eq_false c11
      clear c11
      (first | rw [c11b0] | (simp only [i64_w, i32_w]; rw [c11b0]) | skip)
      by_cases c12 : t108 = t110
      · rw [if_pos c12] at H
        have c12b0 : (t108 == t110) = true := beq_iff_eq.mpr c12
        have c12b1 : (t108 != t110) = false := bne_eq_false_iff_eq.mpr c12
        clear c12
        have H' := Aside0.mk H
        clear H
        go_wp2
        go_meet
        case rel => exact ⟨_, (decide (t109 < t111)), (by first | rfl | (simp; done) | (simp [*]; done)), H', ⟨by first | omega | exact Nat.le_refl _⟩, ⟨by (with_reducible repeat (first | refine blk_drewN ?_ _ | refine blk_drew ?_ | refine blk_alloc ?_ _)); exact BK106.out⟩, ⟨by (with_reducible repeat (first | refine blk_drewN ?_ _ | refine blk_drew ?_ | refine blk_alloc ?_ _)); exact BK107.out⟩, ⟨by repeat (first | (with_reducible first | exact HB.out | apply below_alloc | apply pw_below_drewN | apply below_drew1 | refine below_set ?_ GE106.out | refine below_set ?_ GE107.out) | exact HB.out)⟩⟩
      · rw [if_neg c12] at H
        have c12b0 : (t108 == t110) = false := beq_eq_false_iff_ne.mpr c12
        have c12b1 : (t108 != t110) = true := bne_iff_ne.mpr c12
        have H' := Aside0.mk H
        clear H
        go_wp2
        go_meet
        case rel => exact ⟨_, (false), (by first | rfl | (simp; done) | (simp [*]; done)), H', ⟨by first | omega | exact Nat.le_refl _⟩, ⟨by (with_reducible repeat (first | refine blk_drewN ?_ _ | refine blk_drew ?_ | refine blk_alloc ?_ _)); exact BK106.out⟩, ⟨by (with_reducible repeat (first | refine blk_drewN ?_ _ | refine blk_drew ?_ | refine blk_alloc ?_ _)); exact BK107.out⟩, ⟨by repeat (first | (with_reducible first | exact HB.out | apply below_alloc | apply pw_below_drewN | apply below_drew1 | refine below_set ?_ GE106.out | refine below_set ?_ GE107.out) | exact HB.out)⟩⟩
  case rest =>
    clear HC5
    try clear c1
    try clear p2
    try clear c5
    try clear c6
    try clear c8
    try clear c11
    try clear c11b0
    try clear c12
    try clear c12b0
    try clear c12b1
    try clear hcz10_0
    try clear hcz10_1
    try clear hcz10_2
    try clear hcz10_3
    try clear hcz9_0
    try clear hcz9_1
    try clear hcz9_2
    try clear hcz9_3
    try clear hfz10_0
    try clear hfz10_1
    try clear hfz10_2
    try clear hfz10_3
    try clear hfz9_0
    try clear hfz9_1
    try clear hfz9_2
    try clear hfz9_3
    obtain ⟨kq, x31_4, rfl, HA, HJ4, BK106, BK107, HB⟩ := hcut
    cases kq with
    | zero => exact absurd HA.out (by simp [crush_ahead.j0])
    | succ kj4 =>
      have H := HA.out
      clear HA
      simp only [crush_ahead.j0] at H
      by_cases c13 : x31_4 = true
      · subst c13
        have H1 : (some (-1)) = some r := by rw [if_pos rfl] at H; exact H
        clear H
        have H := H1
        clear H1
        obtain rfl := Option.some.inj H
        go_wp2
        go_ret
        exact ⟨by first | rfl | (simp [errW_none, errW_some] <;> rfl) | (simp [*, errW_none, errW_some] <;> rfl), by repeat (first | (with_reducible first | exact HB.out | apply below_alloc | apply pw_below_drewN | apply below_drew1 | refine below_set ?_ GE106.out | refine below_set ?_ GE107.out) | exact HB.out)⟩
      · replace c13 := Bool.eq_false_iff.mpr c13
        subst c13
        have H1 : (if t108 = t110 then (if t109 = t111 then (some (wrap64 (a0_2 - a1_2))) else (some 1)) else (some 1)) = some r := by rw [if_neg (show ¬ (false = true) by decide)] at H; exact H
        clear H
        have H := H1
        clear H1
        by_cases c14 : t108 = t110
        · rw [if_pos c14] at H
          have c14b0 : (t108 == t110) = true := beq_iff_eq.mpr c14
          have c14b1 : (t108 != t110) = false := bne_eq_false_iff_eq.mpr c14
          clear c14
          by_cases c15 : t109 = t111
          · rw [if_pos c15] at H
            have c15b0 : (t109 == t111) = true := beq_iff_eq.mpr c15
            have c15b1 : (t109 != t111) = false := bne_eq_false_iff_eq.mpr c15
            clear c15
            obtain rfl := Option.some.inj H
            have hnb16 := NB106_107.out
            have hnc16 := NB107_106.out
            have hcz17_0 : wc.cell? ⟨gb106, 0, none⟩ = some (.int .i64 a0_0) := (blk_cell BK106.out 0).trans rfl
            have hcz17_1 : wc.cell? ⟨gb106, 1, none⟩ = some (.int .i64 a0_1) := (blk_cell BK106.out 1).trans rfl
            have hcz17_2 : wc.cell? ⟨gb106, 2, none⟩ = some (.int .i64 a0_2) := (blk_cell BK106.out 2).trans rfl
            have hcz17_3 : wc.cell? ⟨gb106, 3, none⟩ = some (.int .i64 a0_3) := (blk_cell BK106.out 3).trans rfl
            have hfz17_0 := blk_frozen BK106.out 0
            have hfz17_1 := blk_frozen BK106.out 1
            have hfz17_2 := blk_frozen BK106.out 2
            have hfz17_3 := blk_frozen BK106.out 3
            have hcz18_0 : wc.cell? ⟨gb107, 0, none⟩ = some (.int .i64 a1_0) := (blk_cell BK107.out 0).trans rfl
            have hcz18_1 : wc.cell? ⟨gb107, 1, none⟩ = some (.int .i64 a1_1) := (blk_cell BK107.out 1).trans rfl
            have hcz18_2 : wc.cell? ⟨gb107, 2, none⟩ = some (.int .i64 a1_2) := (blk_cell BK107.out 2).trans rfl
            have hcz18_3 : wc.cell? ⟨gb107, 3, none⟩ = some (.int .i64 a1_3) := (blk_cell BK107.out 3).trans rfl
            have hfz18_0 := blk_frozen BK107.out 0
            have hfz18_1 := blk_frozen BK107.out 1
            have hfz18_2 := blk_frozen BK107.out 2
            have hfz18_3 := blk_frozen BK107.out 3
            go_wp2
            go_ret
            exact ⟨by first | rfl | (simp [errW_none, errW_some] <;> rfl) | (simp [*, errW_none, errW_some] <;> rfl), by repeat (first | (with_reducible first | exact HB.out | apply below_alloc | apply pw_below_drewN | apply below_drew1 | refine below_set ?_ GE106.out | refine below_set ?_ GE107.out) | exact HB.out)⟩
          · rw [if_neg c15] at H
            have c15b0 : (t109 == t111) = false := beq_eq_false_iff_ne.mpr c15
            have c15b1 : (t109 != t111) = true := bne_iff_ne.mpr c15
            obtain rfl := Option.some.inj H
            go_wp2
            go_ret
            exact ⟨by first | rfl | (simp [errW_none, errW_some] <;> rfl) | (simp [*, errW_none, errW_some] <;> rfl), by repeat (first | (with_reducible first | exact HB.out | apply below_alloc | apply pw_below_drewN | apply below_drew1 | refine below_set ?_ GE106.out | refine below_set ?_ GE107.out) | exact HB.out)⟩
        · rw [if_neg c14] at H
          have c14b0 : (t108 == t110) = false := beq_eq_false_iff_ne.mpr c14
          have c14b1 : (t108 != t110) = true := bne_iff_ne.mpr c14
          obtain rfl := Option.some.inj H
          go_wp2
          go_ret
          exact ⟨by first | rfl | (simp [errW_none, errW_some] <;> rfl) | (simp [*, errW_none, errW_some] <;> rfl), by repeat (first | (with_reducible first | exact HB.out | apply below_alloc | apply pw_below_drewN | apply below_drew1 | refine below_set ?_ GE106.out | refine below_set ?_ GE107.out) | exact HB.out)⟩
end Go.Proofs.Ytbaldkcnipmdjaa.P
namespace Go.Proofs.Ytbaldkcnipmdjaa.P
open Go.RowKit Go.Proofs.YtbaldkcnipmdjaaW.PrintWords Go.Proofs.YtbaldkcnipmdjaaW.PrintLast Go.Proofs.YtbaldkcnipmdjaaW.PrintMore Go.Proofs.YtbaldkcnipmdjaaW.HB
set_option linter.unusedVariables false
set_option linter.unusedSimpArgs false
attribute [local go_sem] Oper.semAt_some
structure Straw where
  id : Int
  wt : Int
  place : Int
  cost : Int
def wtI (x : S31) : Int := mn x.f1 1048576
def strawAt (l : List S31) (x r : Int) (i : Nat) : Straw := ⟨(rd_T31 l i).f0, wtI (rd_T31 l i), i, costS x (rd_T31 l i).f0 r⟩
def strawsL (l : List S31) (x r : Int) : Nat → List Straw
  | 0 => []
  | n + 1 => if 1 ≤ wtI (rd_T31 l n) then strawsL l x r n ++ [strawAt l x r n] else strawsL l x r n
def aheadB (s b : Straw) : Bool := decide (s.cost * b.wt < b.cost * s.wt ∨ (s.cost * b.wt = b.cost * s.wt ∧ s.place < b.place))
def stepB (b : Option Straw) (s : Straw) : Option Straw := match b with
  | none => some s
  | some b => if aheadB s b = true then some s else some b
def bestL (l : List Straw) : Option Straw := l.foldl stepB none
theorem bestL_snoc (l : List Straw) (s : Straw) : bestL (l ++ [s]) = stepB (bestL l) s := by unfold bestL; rw [List.foldl_append]; rfl
structure Straw.ok (s : Straw) : Prop where
  w1 : 1 ≤ s.wt
  w2 : s.wt ≤ 1048576
  c1 : 0 ≤ s.cost
  c2 : s.cost ≤ 1048576
  p1 : 0 ≤ s.place
  p2 : s.place ≤ 9223372036854775807
theorem strawAt_ok (l : List S31) (x r : Int) (i : Nat) (hi : i ≤ 9223372036854775807) (h : 1 ≤ wtI (rd_T31 l i)) : (strawAt l x r i).ok := by
  have hc := cost_at x (rd_T31 l i).f0 r
  refine ⟨h, ?_, hc.2.2.1, hc.2.2.2, by show (0 : Int) ≤ (i : Int); omega, by show (i : Int) ≤ _; omega⟩
  show wtI (rd_T31 l i) ≤ 1048576
  unfold wtI mn
  split <;> omega
theorem strawsL_ok (l : List S31) (x r : Int) : ∀ (n : Nat), n ≤ 9223372036854775807 → ∀ s ∈ strawsL l x r n, s.ok
  | 0, _, s, h => by simp [strawsL] at h
  | n + 1, hn, s, h => by
    unfold strawsL at h
    split at h
    · rename_i hw
      rcases List.mem_append.1 h with h | h
      · exact strawsL_ok l x r n (by omega) s h
      · simp at h; subst h; exact strawAt_ok l x r n (by omega) hw
    · exact strawsL_ok l x r n (by omega) s h
theorem strawsL_len (l : List S31) (x r : Int) : ∀ n, (strawsL l x r n).length ≤ n
  | 0 => by simp [strawsL]
  | n + 1 => by
    have := strawsL_len l x r n
    unfold strawsL
    split
    · rw [List.length_append]; simp; omega
    · omega
theorem best_mem : ∀ (l : List Straw) (b0 : Option Straw) (b : Straw), l.foldl stepB b0 = some b → b ∈ l ∨ b0 = some b
  | [], b0, b, h => .inr h
  | s :: l, b0, b, h => by
    rw [List.foldl_cons] at h
    rcases best_mem l _ b h with h | h
    · exact .inl (List.mem_cons_of_mem _ h)
    · cases b0 with
      | none => injection h with h; subst h; exact .inl (by simp)
      | some b' =>
        simp only [stepB] at h
        split at h
        · injection h with h; subst h; exact .inl (by simp)
        · exact .inr h
theorem bestL_mem (l : List Straw) (b : Straw) (h : bestL l = some b) : b ∈ l := (best_mem l none b h).elim id (fun h => by cases h)
abbrev OkS := { s : Straw // s.ok }
open Classical in
noncomputable def mkOk (s : Straw) : OkS := if h : s.ok then ⟨s, h⟩ else ⟨⟨0, 1, 0, 0⟩, ⟨by decide, by decide, by decide, by decide, by decide, by decide⟩⟩
theorem mkOk_val (s : Straw) (h : s.ok) : (mkOk s).1 = s := by unfold mkOk; rw [dif_pos h]
theorem mkOk_map : ∀ (l : List Straw), (∀ s ∈ l, s.ok) → (l.map mkOk).map Subtype.val = l
  | [], _ => rfl
  | s :: l, h => by
    rw [List.map_cons, List.map_cons, mkOk_val s (h s (by simp)), mkOk_map l (fun t ht => h t (List.mem_cons_of_mem _ ht))]
def valsO (l : List OkS) : List Straw := l.map Subtype.val
theorem best_ok (l : List OkS) (b : Straw) (h : bestL (valsO l) = some b) : b.ok := by
  obtain ⟨s, _, rfl⟩ := List.mem_map.1 (bestL_mem _ _ h)
  exact s.2
theorem and32 (x : Int) (h0 : 0 ≤ x) (h1 : x < 4294967296) : Go.bits .and .u64 x 4294967295 = x := by
  have := bits_mask .u64 64 (by decide) (fun n a b => by simp [IntKind.wrap, IntKind.signed, IntKind.bits]; omega) 32 (by decide) x h0 (by omega)
  rw [show (4294967295 : Int) = 2 ^ 32 - 1 from by decide, this]
  omega
theorem mul64_eq (x y : Int) (hx : 0 ≤ x ∧ x ≤ 1048576) (hy : 0 ≤ y ∧ y ≤ 1048576) : bits_Mul64.f x y = some (0, x * y) := by
  have hp : 0 ≤ x * y := Int.mul_nonneg hx.1 hy.1
  have hq : x * y ≤ 1048576 * 1048576 := Int.mul_le_mul hx.2 hy.2 hy.1 (by decide)
  have hw : ∀ z : Int, 0 ≤ z → z < 18446744073709551616 → IntKind.u64.wrap z = z := fun z a b => by simp [IntKind.wrap, IntKind.signed, IntKind.bits]; omega
  unfold bits_Mul64.f
  rw [and32 x (by omega) (by omega), and32 y (by omega) (by omega)]
  rw [show x / 4294967296 = 0 from by omega, show y / 4294967296 = 0 from by omega]
  simp only [Int.zero_mul, Int.mul_zero]
  generalize x * y = z at *
  rw [hw 0 (by omega) (by omega), hw z (by omega) (by omega)]
  simp only [Int.zero_add]
  rw [hw (z / 4294967296) (by omega) (by omega)]
  rw [and32 (z / 4294967296) (by omega) (by omega), Int.add_zero, hw (z / 4294967296) (by omega) (by omega)]
  rw [show z / 4294967296 / 4294967296 = 0 from by omega, hw 0 (by omega) (by omega), Int.add_zero, hw 0 (by omega) (by omega)]
theorem ahead_eq (s b : Straw) (hs : s.ok) (hb : b.ok) : ∃ v : Int, crush_ahead.f 5 s.id s.wt s.place s.cost b.id b.wt b.place b.cost = some v ∧ decide (v < 0) = aheadB s b := by
  have hw : ∀ z : Int, 0 ≤ z → z < 18446744073709551616 → IntKind.u64.wrap z = z := fun z a b => by simp [IntKind.wrap, IntKind.signed, IntKind.bits]; omega
  obtain ⟨w1, w2, c1, c2, p1, p2⟩ := hs
  obtain ⟨w1', w2', c1', c2', p1', p2'⟩ := hb
  unfold crush_ahead.f aheadB
  rw [hw s.cost c1 (by omega), hw b.wt (by omega) (by omega), hw b.cost c1' (by omega), hw s.wt (by omega) (by omega)]
  rw [mul64_eq _ _ ⟨c1, c2⟩ ⟨by omega, w2'⟩, mul64_eq _ _ ⟨c1', c2'⟩ ⟨by omega, w2⟩, Option.bind_some, Option.bind_some]
  simp only [crush_ahead.j0]
  generalize s.cost * b.wt = P
  generalize b.cost * s.wt = Q
  rw [if_neg (by omega), if_pos trivial]
  by_cases h : P < Q
  · rw [decide_eq_true h, if_pos rfl]
    exact ⟨-1, rfl, by rw [decide_eq_true (Or.inl h)]; rfl⟩
  · rw [decide_eq_false h, if_neg (by decide)]
    by_cases he : P = Q
    · rw [if_pos he, wrap64_small _ (by omega) (by omega)]
      refine ⟨_, rfl, ?_⟩
      rw [decide_eq_decide]
      omega
    · rw [if_neg he]
      exact ⟨1, rfl, by rw [decide_eq_decide]; omega⟩
end Go.Proofs.Ytbaldkcnipmdjaa.P
namespace Go.Proofs.Ytbaldkcnipmdjaa.P
open Go.RowKit Go.Proofs.YtbaldkcnipmdjaaW.PrintWords Go.Proofs.YtbaldkcnipmdjaaW.PrintLast Go.Proofs.YtbaldkcnipmdjaaW.PrintMore Go.Proofs.YtbaldkcnipmdjaaW.HB
set_option linter.unusedVariables false
theorem C_block {α : Type} {d : Kd α} (hs : 0 < d.sz) {W : World} {A : Option Addr} {n : Nat} {xs : List α} (h : Kd.C d W A n xs) : ∀ ad, A = some ad → 0 < n → ad.block < W.heap.size := by
  intro ad e hn
  obtain ⟨ad', e', hc⟩ := h.2.2 hn
  obtain rfl : ad = ad' := by rw [e] at e'; exact Option.some.inj e'
  have hl := h.1
  obtain ⟨c, h1, h2, h3⟩ := hc 0 xs[0] (List.getElem?_eq_getElem (by omega))
  have hc0 : 0 < c.length := by omega
  have := World.block_lt_of_cell? _ _ (h3 0 c[0] (List.getElem?_eq_getElem hc0))
  rw [Nat.zero_mul, Nat.zero_add] at this
  simpa [Addr.add] using this
theorem heap_alloc_if (w : World) (o : Obj) (k : Nat) : (w.alloc o).heap[k]? = if k = w.heap.size then some o else w.heap[k]? := by
  show (w.heap.push o)[k]? = _
  rw [Array.getElem?_push]
theorem keepsFrom_below {W W' : World} (B : Nat) (h : Below W.heap.size W W') : KeepsFrom B W W' := ⟨h.size, fun k o _ ho _ => (h.block k (Array.getElem?_eq_some_iff.1 ho).1).trans ho⟩
theorem meetM {F : Fence} {n : Nat} {P : Program} {c : Code} {Q : Exit → Act → World → Prop} {a : Act} {w : World}
    (h : ∃ a' w', c.wpIn F n P (fun e a w => match e with | .normal => a = a' ∧ w = w' | _ => False) a w ∧ Q .normal a' w') : c.wpIn F n P Q a w := by
  obtain ⟨a', w', h1, h2⟩ := h
  refine wpIn_mono h1 ?_
  rintro e b v hb
  cases e with
  | normal => obtain ⟨rfl, rfl⟩ := hb; exact h2
  | _ => exact hb.elim
theorem wpIn_scope_wide {n : Nat} {P : Program} {c : Code} {Q : Exit → Act → World → Prop} {a : Act} {w : World} (h : c.wpIn Fence.wide n P (Exit.noGoto Q) a w) : (Code.scope c).wpIn Fence.wide n P Q a w := wpIn_wide.2 (wp_scope_straight (wpIn_wide.1 h))
end Go.Proofs.Ytbaldkcnipmdjaa.P
