/- Texts of this claim, merged by pack.py: PDupOfDup B5 -/
import Derived.Test.YtbdciklcckjknaaZT01
import Derived.Test.YtbdciklcckjknaaZT08
import Derived.Deep.RegionWith
namespace Go.Proofs.Ytbdciklcckjknaa.P
open Go.RowKit Go.Proofs.YtbdciklcckjknaaW.PrintWords Go.Proofs.YtbdciklcckjknaaW.PrintLast Go.Proofs.YtbdciklcckjknaaW.PrintMore
attribute [local go_sem] max2_int min2_int max_two min_two max_three min_three max_four min_four
set_option linter.unusedVariables false
set_option linter.unusedSimpArgs false
attribute [local go_sem high] eqA24 eqA29
def dup_ofDup.f (a0_0 : Int) (a0_1 : Int) (a0_2 : Int) (a0_3 : Int) (a0_4 : Int) (a0_5 : Int) (a0_6 : ByteArray) : Option (Int × Int × Int) := some (a0_1, a0_2, a0_0)
set_option maxHeartbeats 8000000 in
set_option maxRecDepth 100000 in
theorem dup_ofDup.calls (a0_0 : Int) (a0_1 : Int) (a0_2 : Int) (a0_3 : Int) (a0_4 : Int) (a0_5 : Int) (a0_6 : ByteArray) (r1 : Int) (r2 : Int) (r3 : Int) (w : World) (h : dup_ofDup.f a0_0 a0_1 a0_2 a0_3 a0_4 a0_5 a0_6 = some (r1, r2, r3)) :
    Calls Try.prog 64 #[.agg #[.int .i64 a0_0, .int .i64 a0_1, .int .i64 a0_2, .int .i64 a0_3, .int .i64 a0_4, .int .i64 a0_5, .string a0_6]] w fun e w' => e = .returned (.agg #[.int .i64 r1, .int .i64 r2, .int .i64 r3]) ∧ Below w.heap.size w w' := by
  have hu73 := Try.underlying73
  have hu94 := Try.underlying94
  have hu92 := Try.underlying92
  have HB := Aside0.mk (Below.refl w.heap.size w)
  have H : (some (a0_1, a0_2, a0_0)) = some (r1, r2, r3) := h
  clear h
  simp only [Option.some.injEq, Prod.mk.injEq] at H
  obtain ⟨rfl, rfl, rfl⟩ := H
  go_enter Try.func64, Try.ntmps64
  go_wp2_with (first | ((with_reducible refine gate_dst (N := 1) rfl ?_); refine box_event ?hg (N := 1) ?hd (cs := #[.int .i64 a0_0, .int .i64 a0_1, .int .i64 a0_2, .int .i64 a0_3, .int .i64 a0_4, .int .i64 a0_5, .string a0_6]) (t := 73) ?hr ?_; (case hd => rfl); (case hg => rfl); (case hr => first | (go_simp; done) | (go_simp; rfl)); intro gb205 hg w2 hbox hb; have n0_ := Aside0.mk (below_step (by repeat (first | (with_reducible first | exact HB.out | apply below_alloc | apply pw_below_drewN | apply below_drew1) | exact HB.out)) hb); have n1_ := Aside0.mk (hbox); have n2_ := Aside0.mk ((by rw [hg]; exact (below_size (by repeat (first | (with_reducible first | exact HB.out | apply below_alloc | apply pw_below_drewN | apply below_drew1) | exact HB.out))) : w.heap.size ≤ gb205)); have n3_ := Aside0.mk ((by rw [hg]; exact (below_size (by repeat (first | (with_reducible first | exact HB.out | apply below_alloc | apply pw_below_drewN | apply below_drew1) | exact HB.out))) : w.heap.size ≤ gb205)); clear HB; have HB := n0_; have BK205 := n1_; have GW205 := n2_; have GE205 := n3_; clear n0_ n1_ n2_ n3_; clear hb hbox hg) | ((with_reducible refine gate_dst (N := 2) rfl ?_); refine box_event ?hg (N := 2) ?hd (cs := #[.int .i64 0, .int .i64 0, .int .i64 0]) (t := 94) ?hr ?_; (case hd => rfl); (case hg => rfl); (case hr => first | (go_simp; done) | (go_simp; rfl)); intro gb206 hg w3 hbox hb; have n0_ := Aside0.mk (blk_below (g := gb205) (o := .cells #[.int .i64 a0_0, .int .i64 a0_1, .int .i64 a0_2, .int .i64 a0_3, .int .i64 a0_4, .int .i64 a0_5, .string a0_6] 73 (0, 0)) (by (with_reducible repeat (first | refine blk_drewN ?_ _ | refine blk_drew ?_ | refine blk_alloc ?_ _)); exact BK205.out) hb); have n1_ := Aside0.mk (below_step (by repeat (first | (with_reducible first | exact HB.out | apply below_alloc | apply pw_below_drewN | apply below_drew1 | refine below_set ?_ GE205.out) | exact HB.out)) hb); have n2_ := Aside0.mk (hbox); have n3_ := Aside0.mk ((by rw [hg]; exact (below_size (by repeat (first | (with_reducible first | exact HB.out | apply below_alloc | apply pw_below_drewN | apply below_drew1 | refine below_set ?_ GE205.out) | exact HB.out))) : w.heap.size ≤ gb206)); have n4_ := Aside0.mk ((by rw [hg]; exact (below_size (by repeat (first | (with_reducible first | exact HB.out | apply below_alloc | apply pw_below_drewN | apply below_drew1 | refine below_set ?_ GE205.out) | exact HB.out))) : w.heap.size ≤ gb206)); have n5_ := Aside0.mk ((by rw [hg]; exact Nat.ne_of_lt (blk_lt (g := gb205) (o := .cells #[.int .i64 a0_0, .int .i64 a0_1, .int .i64 a0_2, .int .i64 a0_3, .int .i64 a0_4, .int .i64 a0_5, .string a0_6] 73 (0, 0)) (by (with_reducible repeat (first | refine blk_drewN ?_ _ | refine blk_drew ?_ | refine blk_alloc ?_ _)); exact BK205.out)) : gb205 ≠ gb206)); have n6_ := Aside0.mk ((by rw [hg]; exact Nat.ne_of_gt (blk_lt (g := gb205) (o := .cells #[.int .i64 a0_0, .int .i64 a0_1, .int .i64 a0_2, .int .i64 a0_3, .int .i64 a0_4, .int .i64 a0_5, .string a0_6] 73 (0, 0)) (by (with_reducible repeat (first | refine blk_drewN ?_ _ | refine blk_drew ?_ | refine blk_alloc ?_ _)); exact BK205.out)) : gb206 ≠ gb205)); clear BK205; clear HB; have BK205 := n0_; have HB := n1_; have BK206 := n2_; have GW206 := n3_; have GE206 := n4_; have NB205_206 := n5_; have NB206_205 := n6_; clear n0_ n1_ n2_ n3_ n4_ n5_ n6_; clear hb hbox hg; have hnb4 := NB205_206.out; have hnc4 := NB206_205.out; have hcz5_0 : w3.cell? ⟨gb205, 0, none⟩ = some (.int .i64 a0_0) := (blk_cell BK205.out 0).trans rfl; have hcz5_1 : w3.cell? ⟨gb205, 1, none⟩ = some (.int .i64 a0_1) := (blk_cell BK205.out 1).trans rfl; have hcz5_2 : w3.cell? ⟨gb205, 2, none⟩ = some (.int .i64 a0_2) := (blk_cell BK205.out 2).trans rfl; have hcz5_3 : w3.cell? ⟨gb205, 3, none⟩ = some (.int .i64 a0_3) := (blk_cell BK205.out 3).trans rfl; have hcz5_4 : w3.cell? ⟨gb205, 4, none⟩ = some (.int .i64 a0_4) := (blk_cell BK205.out 4).trans rfl; have hcz5_5 : w3.cell? ⟨gb205, 5, none⟩ = some (.int .i64 a0_5) := (blk_cell BK205.out 5).trans rfl; have hcz5_6 : w3.cell? ⟨gb205, 6, none⟩ = some (.string a0_6) := (blk_cell BK205.out 6).trans rfl; have hfz5_0 := blk_frozen BK205.out 0; have hfz5_1 := blk_frozen BK205.out 1; have hfz5_2 := blk_frozen BK205.out 2; have hfz5_3 := blk_frozen BK205.out 3; have hfz5_4 := blk_frozen BK205.out 4; have hfz5_5 := blk_frozen BK205.out 5; have hfz5_6 := blk_frozen BK205.out 6; have hcz6_0 : w3.cell? ⟨gb206, 0, none⟩ = some (.int .i64 0) := (blk_cell BK206.out 0).trans rfl; have hcz6_1 : w3.cell? ⟨gb206, 1, none⟩ = some (.int .i64 0) := (blk_cell BK206.out 1).trans rfl; have hcz6_2 : w3.cell? ⟨gb206, 2, none⟩ = some (.int .i64 0) := (blk_cell BK206.out 2).trans rfl; have hfz6_0 := blk_frozen BK206.out 0; have hfz6_1 := blk_frozen BK206.out 1; have hfz6_2 := blk_frozen BK206.out 2))
  refine bodyPost_ret (results_cell_row rfl _ _ gb206 94 #[.int .i64 a0_1, .int .i64 a0_2, .int .i64 a0_0] (0, 0) _ rfl (by (with_reducible repeat (first | refine blk_drewN ?_ _ | refine blk_drew ?_ | refine blk_alloc ?_ _)); refine blk_put (cs := #[.int .i64 a0_1, .int .i64 a0_2, .int .i64 0]) ?_ 2 _ rfl; (with_reducible repeat (first | refine blk_drewN ?_ _ | refine blk_drew ?_ | refine blk_alloc ?_ _)); refine blk_put (cs := #[.int .i64 a0_1, .int .i64 0, .int .i64 0]) ?_ 1 _ rfl; (with_reducible repeat (first | refine blk_drewN ?_ _ | refine blk_drew ?_ | refine blk_alloc ?_ _)); refine blk_put (cs := #[.int .i64 0, .int .i64 0, .int .i64 0]) ?_ 0 _ rfl; (with_reducible repeat (first | refine blk_drewN ?_ _ | refine blk_drew ?_ | refine blk_alloc ?_ _)); exact BK206.out) Try.underlying94 rfl (by kernel_rfl)) rfl ?_
  exact ⟨by first | rfl | (simp [errW_none, errW_some] <;> rfl) | (simp [*, errW_none, errW_some] <;> rfl), by repeat (first | (with_reducible first | exact HB.out | apply below_alloc | apply pw_below_drewN | apply below_drew1 | refine below_set ?_ GE205.out | refine below_set ?_ GE206.out) | exact HB.out)⟩
end Go.Proofs.Ytbdciklcckjknaa.P
namespace Go.Proofs.Ytbdciklcckjknaa.P
open Go.RowKit Go.Proofs.YtbdciklcckjknaaW.PrintWords Go.Proofs.YtbdciklcckjknaaW.PrintLast Go.Proofs.YtbdciklcckjknaaW.PrintMore Go.Proofs.YtbdciklcckjknaaW.HB
set_option linter.unusedVariables false
set_option linter.unusedSimpArgs false
def pairB (i t : Int) : Bool := decide (1 ≤ i) && (decide (i ≤ 1073741824) && (decide (1 ≤ t) && decide (t ≤ 1073741824)))
def stampB (c i t : Int) : Bool := decide (0 ≤ c) && pairB i t
set_option maxRecDepth 100000 in
set_option maxHeartbeats 4000000 in
theorem dup_pair_ok.calls (i t : Int) (w : World) : Calls Try.prog 80 #[.agg #[.int .i64 i, .int .i64 t]] w fun e w' => e = .returned (.bool (pairB i t)) ∧ Below w.heap.size w w' := by
  have hu := Try.underlying92
  cases h1 : decide (1 ≤ i) with
  | false =>
    go_enter Try.func80, Try.ntmps80
    go_wp2
    go_ret
    exact ⟨by unfold pairB; rw [h1]; rfl, below_alloc (Below.refl _ _) _⟩
  | true =>
    cases h2 : decide (i ≤ 1073741824) with
    | false =>
      go_enter Try.func80, Try.ntmps80
      go_wp2
      go_ret
      exact ⟨by unfold pairB; rw [h1, h2]; rfl, below_alloc (Below.refl _ _) _⟩
    | true =>
      cases h3 : decide (1 ≤ t) with
      | false =>
        go_enter Try.func80, Try.ntmps80
        go_wp2
        go_ret
        exact ⟨by unfold pairB; rw [h1, h2, h3]; rfl, below_alloc (Below.refl _ _) _⟩
      | true =>
        go_enter Try.func80, Try.ntmps80
        go_wp2
        go_ret
        exact ⟨by unfold pairB; rw [h1, h2, h3]; rfl, below_alloc (Below.refl _ _) _⟩
set_option maxRecDepth 100000 in
set_option maxHeartbeats 4000000 in
theorem dup_stamp_fit.calls (i t c : Int) (w : World) : Calls Try.prog 65 #[.agg #[.int .i64 i, .int .i64 t, .int .i64 c]] w fun e w' => e = .returned (.bool (stampB c i t)) ∧ Below w.heap.size w w' := by
  have hu := Try.underlying94
  have hu2 := Try.underlying92
  cases h1 : decide (0 ≤ c) with
  | false =>
    go_enter Try.func65, Try.ntmps65
    go_wp2
    go_ret
    exact ⟨by unfold stampB; rw [h1]; rfl, below_alloc (Below.refl _ _) _⟩
  | true =>
    go_enter Try.func65, Try.ntmps65
    go_wp2_with (go_at_call 80; refine (dup_pair_ok.calls i t _).mono ?_; rintro e' w1 ⟨rfl, hD⟩; have HD := Aside0.mk (below_step (below_alloc (Below.refl _ _) _) hD); clear hD)
    go_ret
    exact ⟨by unfold stampB; rw [h1]; rfl, HD.out⟩
set_option maxRecDepth 100000 in
set_option maxHeartbeats 4000000 in
theorem reefref20_stamp.calls' (c i t : Int) (w : World) : Calls Try.prog 67 #[.int .i64 c, .int .i64 i, .int .i64 t] w fun e w' => e = .returned (.bool (stampB c i t)) ∧ Below w.heap.size w w' := by
  cases h0 : decide (0 ≤ c) with
  | false =>
    go_enter Try.func67, Try.ntmps67
    go_wp2
    go_ret
    exact ⟨by unfold stampB; rw [h0]; rfl, Below.refl _ _⟩
  | true =>
    cases h1 : decide (1 ≤ i) with
    | false =>
      go_enter Try.func67, Try.ntmps67
      go_wp2
      go_ret
      exact ⟨by unfold stampB pairB; rw [h0, h1]; rfl, Below.refl _ _⟩
    | true =>
      cases h2 : decide (i ≤ 1073741824) with
      | false =>
        go_enter Try.func67, Try.ntmps67
        go_wp2
        go_ret
        exact ⟨by unfold stampB pairB; rw [h0, h1, h2]; rfl, Below.refl _ _⟩
      | true =>
        cases h3 : decide (1 ≤ t) with
        | false =>
          go_enter Try.func67, Try.ntmps67
          go_wp2
          go_ret
          exact ⟨by unfold stampB pairB; rw [h0, h1, h2, h3]; rfl, Below.refl _ _⟩
        | true =>
          go_enter Try.func67, Try.ntmps67
          go_wp2
          go_ret
          exact ⟨by unfold stampB pairB; rw [h0, h1, h2, h3]; rfl, Below.refl _ _⟩
end Go.Proofs.Ytbdciklcckjknaa.P
