/- Texts of this claim, merged by pack.py: PPglogAppend -/
import Derived.Test.YtbdciklcckjknaaZT01
import Derived.Test.YtbdciklcckjknaaZT03
namespace Go.Proofs.Ytbdciklcckjknaa.P
open Go.RowKit Go.Proofs.YtbdciklcckjknaaW.PrintWords Go.Proofs.YtbdciklcckjknaaW.PrintLast Go.Proofs.YtbdciklcckjknaaW.PrintMore
attribute [local go_sem] max2_int min2_int max_two min_two max_three min_three max_four min_four
set_option linter.unusedVariables false
set_option linter.unusedSimpArgs false
def pglog_Append.j0 : Nat → List (S34) → Bool → Int → Int → Int → Int → Int → Int → Int → Int → ByteArray → Int → Int → ByteArray → Int → Int → Int → ByteArray → Option ((List (S34)) × Int × Int × Bool)
  | 0, _, _, _, _, _, _, _, _, _, _, _, _, _, _, _, _, _, _ => none
  | k + 1, x9, x31, x119000, x119001, x120000, x120001, x120002, x120003, x120004, x120005, x120006, x120007, x120008, x120009, x120010, x120011, x120012, x120013 => if x31 = true then (some (x9, x119000, x119001, false)) else (if x9.length < 1034834473200 then ((some (x9 ++ [(⟨(⟨x120000, x120001⟩ : S24), (⟨x120002, x120003, x120004, (⟨x120005, x120006, x120007, x120008, x120009⟩ : S27)⟩ : S29), (⟨x120010, x120011, x120012, x120013⟩ : S32)⟩ : S34)] : List (S34))).bind fun y125 => (if (y125.length : Int) > 8 then (if 1 ≤ (y125.length : Int) then (some ((y125.drop (1 : Int).toNat), x120000, x120001, true)) else (none)) else (some (y125, x120000, x120001, true)))) else (none))
def pglog_Append.f (k : Nat) (l0 : List (S34)) (a1_0 : Int) (a1_1 : Int) (a2_0 : Int) (a2_1 : Int) (a2_2 : Int) (a2_3 : Int) (a2_4 : Int) (a2_5 : Int) (a2_6 : ByteArray) (a2_7 : Int) (a2_8 : Int) (a2_9 : ByteArray) (a2_10 : Int) (a2_11 : Int) (a2_12 : Int) (a2_13 : ByteArray) : Option ((List (S34)) × Int × Int × Bool) := (slices_Clone_N.f l0).bind fun t121 => ((pglog_Entry.f k a2_0 a2_1 a2_2 a2_3 a2_4 a2_5 a2_6 a2_7 a2_8 a2_9 a2_10 a2_11 a2_12 a2_13).bind fun t124 => (if t124 = true then (if a2_1 = (wrap64 (a1_1 + 1)) then (pglog_Append.j0 k t121 (decide (a2_0 < a1_0)) a1_0 a1_1 a2_0 a2_1 a2_2 a2_3 a2_4 a2_5 a2_6 a2_7 a2_8 a2_9 a2_10 a2_11 a2_12 a2_13) else (pglog_Append.j0 k t121 true a1_0 a1_1 a2_0 a2_1 a2_2 a2_3 a2_4 a2_5 a2_6 a2_7 a2_8 a2_9 a2_10 a2_11 a2_12 a2_13)) else (pglog_Append.j0 k t121 true a1_0 a1_1 a2_0 a2_1 a2_2 a2_3 a2_4 a2_5 a2_6 a2_7 a2_8 a2_9 a2_10 a2_11 a2_12 a2_13)))
set_option maxHeartbeats 8000000 in
set_option maxRecDepth 100000 in
theorem pglog_Append.calls (k : Nat) (A0 : Option Addr) (c0 : Nat) (l0 : List (S34)) (a1_0 : Int) (a1_1 : Int) (a2_0 : Int) (a2_1 : Int) (a2_2 : Int) (a2_3 : Int) (a2_4 : Int) (a2_5 : Int) (a2_6 : ByteArray) (a2_7 : Int) (a2_8 : Int) (a2_9 : ByteArray) (a2_10 : Int) (a2_11 : Int) (a2_12 : Int) (a2_13 : ByteArray) (r1 : List (S34)) (r2 : Int) (r3 : Int) (r4 : Bool) (w : World) (hr0 : Kd.C k34 w A0 l0.length l0) (hc0 : l0.length ≤ c0) (h : pglog_Append.f k l0 a1_0 a1_1 a2_0 a2_1 a2_2 a2_3 a2_4 a2_5 a2_6 a2_7 a2_8 a2_9 a2_10 a2_11 a2_12 a2_13 = some (r1, r2, r3, r4)) :
    Calls Try.prog 8 #[.slice A0 l0.length c0, .agg #[.int .i64 a1_0, .int .i64 a1_1], .agg #[.int .i64 a2_0, .int .i64 a2_1, .int .i64 a2_2, .int .i64 a2_3, .int .i64 a2_4, .int .i64 a2_5, .string a2_6, .int .i64 a2_7, .int .i64 a2_8, .string a2_9, .int .i64 a2_10, .int .i64 a2_11, .int .i64 a2_12, .string a2_13]] w fun e w' => ∃ v0_ : Value, e = .returned (.tuple #[v0_, .agg #[.int .i64 r2, .int .i64 r3], .bool r4]) ∧ Kd.Q k34 34 w' w.heap.size (fun _ => True) v0_ r1 ∧ Below w.heap.size w w' := by
  have hu24 := Try.underlying24
  have hu34 := Try.underlying34
  have HR0 := Aside0.mk hr0
  have HC0 := Aside0.mk hc0
  clear hr0 hc0
  have HB := Aside0.mk (Below.refl w.heap.size w)
  have H : ((slices_Clone_N.f l0).bind fun t121 => ((pglog_Entry.f k a2_0 a2_1 a2_2 a2_3 a2_4 a2_5 a2_6 a2_7 a2_8 a2_9 a2_10 a2_11 a2_12 a2_13).bind fun t124 => (if t124 = true then (if a2_1 = (wrap64 (a1_1 + 1)) then (pglog_Append.j0 k t121 (decide (a2_0 < a1_0)) a1_0 a1_1 a2_0 a2_1 a2_2 a2_3 a2_4 a2_5 a2_6 a2_7 a2_8 a2_9 a2_10 a2_11 a2_12 a2_13) else (pglog_Append.j0 k t121 true a1_0 a1_1 a2_0 a2_1 a2_2 a2_3 a2_4 a2_5 a2_6 a2_7 a2_8 a2_9 a2_10 a2_11 a2_12 a2_13)) else (pglog_Append.j0 k t121 true a1_0 a1_1 a2_0 a2_1 a2_2 a2_3 a2_4 a2_5 a2_6 a2_7 a2_8 a2_9 a2_10 a2_11 a2_12 a2_13)))) = some (r1, r2, r3, r4) := h
  clear h
  replace H := Option.bind_eq_some_iff.mp H
  obtain ⟨t121, A40, H⟩ := H
  replace H : ((pglog_Entry.f k a2_0 a2_1 a2_2 a2_3 a2_4 a2_5 a2_6 a2_7 a2_8 a2_9 a2_10 a2_11 a2_12 a2_13).bind fun t124 => (if t124 = true then (if a2_1 = (wrap64 (a1_1 + 1)) then (pglog_Append.j0 k t121 (decide (a2_0 < a1_0)) a1_0 a1_1 a2_0 a2_1 a2_2 a2_3 a2_4 a2_5 a2_6 a2_7 a2_8 a2_9 a2_10 a2_11 a2_12 a2_13) else (pglog_Append.j0 k t121 true a1_0 a1_1 a2_0 a2_1 a2_2 a2_3 a2_4 a2_5 a2_6 a2_7 a2_8 a2_9 a2_10 a2_11 a2_12 a2_13)) else (pglog_Append.j0 k t121 true a1_0 a1_1 a2_0 a2_1 a2_2 a2_3 a2_4 a2_5 a2_6 a2_7 a2_8 a2_9 a2_10 a2_11 a2_12 a2_13))) = some (r1, r2, r3, r4) := H
  have A4 := Aside0.mk A40
  clear A40
  have HC5 := Aside0.mk H
  clear H
  go_enter Try.func8, Try.ntmps8
  go_upto_region 2 with (first | ((with_reducible refine gate_dst (N := 4) rfl ?_); refine box_event ?hg (N := 4) ?hd (cs := #[.int .i64 a1_0, .int .i64 a1_1]) (t := 24) ?hr ?_; (case hd => rfl); (case hg => rfl); (case hr => first | (go_simp; done) | (go_simp; rfl)); intro gb118 hg w6 hbox hb; have n0_ := Aside0.mk (below_step (by repeat (first | (with_reducible first | exact HB.out | apply below_alloc | apply pw_below_drewN | apply below_drew1) | exact HB.out)) hb); have n1_ := Aside0.mk (hbox); have n2_ := Aside0.mk ((by rw [hg]; exact (below_size (by repeat (first | (with_reducible first | exact HB.out | apply below_alloc | apply pw_below_drewN | apply below_drew1) | exact HB.out))) : w.heap.size ≤ gb118)); have n3_ := Aside0.mk ((by rw [hg]; exact (below_size (by repeat (first | (with_reducible first | exact HB.out | apply below_alloc | apply pw_below_drewN | apply below_drew1) | exact HB.out))) : w.heap.size ≤ gb118)); clear HB; have HB := n0_; have BK118 := n1_; have GW118 := n2_; have GE118 := n3_; clear n0_ n1_ n2_ n3_; clear hb hbox hg) | ((with_reducible refine gate_dst (N := 5) rfl ?_); refine box_event ?hg (N := 5) ?hd (cs := #[.int .i64 a2_0, .int .i64 a2_1, .int .i64 a2_2, .int .i64 a2_3, .int .i64 a2_4, .int .i64 a2_5, .string a2_6, .int .i64 a2_7, .int .i64 a2_8, .string a2_9, .int .i64 a2_10, .int .i64 a2_11, .int .i64 a2_12, .string a2_13]) (t := 34) ?hr ?_; (case hd => rfl); (case hg => rfl); (case hr => first | (go_simp; done) | (go_simp; rfl)); intro gb119 hg w7 hbox hb; have n0_ := Aside0.mk (blk_below (g := gb118) (o := .cells #[.int .i64 a1_0, .int .i64 a1_1] 24 (0, 0)) (by (with_reducible repeat (first | refine blk_drewN ?_ _ | refine blk_drew ?_ | refine blk_alloc ?_ _)); exact BK118.out) hb); have n1_ := Aside0.mk (below_step (by repeat (first | (with_reducible first | exact HB.out | apply below_alloc | apply pw_below_drewN | apply below_drew1 | refine below_set ?_ GE118.out) | exact HB.out)) hb); have n2_ := Aside0.mk (hbox); have n3_ := Aside0.mk ((by rw [hg]; exact (below_size (by repeat (first | (with_reducible first | exact HB.out | apply below_alloc | apply pw_below_drewN | apply below_drew1 | refine below_set ?_ GE118.out) | exact HB.out))) : w.heap.size ≤ gb119)); have n4_ := Aside0.mk ((by rw [hg]; exact (below_size (by repeat (first | (with_reducible first | exact HB.out | apply below_alloc | apply pw_below_drewN | apply below_drew1 | refine below_set ?_ GE118.out) | exact HB.out))) : w.heap.size ≤ gb119)); have n5_ := Aside0.mk ((by rw [hg]; exact Nat.ne_of_lt (blk_lt (g := gb118) (o := .cells #[.int .i64 a1_0, .int .i64 a1_1] 24 (0, 0)) (by (with_reducible repeat (first | refine blk_drewN ?_ _ | refine blk_drew ?_ | refine blk_alloc ?_ _)); exact BK118.out)) : gb118 ≠ gb119)); have n6_ := Aside0.mk ((by rw [hg]; exact Nat.ne_of_gt (blk_lt (g := gb118) (o := .cells #[.int .i64 a1_0, .int .i64 a1_1] 24 (0, 0)) (by (with_reducible repeat (first | refine blk_drewN ?_ _ | refine blk_drew ?_ | refine blk_alloc ?_ _)); exact BK118.out)) : gb119 ≠ gb118)); clear BK118; clear HB; have BK118 := n0_; have HB := n1_; have BK119 := n2_; have GW119 := n3_; have GE119 := n4_; have NB118_119 := n5_; have NB119_118 := n6_; clear n0_ n1_ n2_ n3_ n4_ n5_ n6_; clear hb hbox hg) | ((with_reducible refine gate_dst (N := 7) rfl ?_); refine box_event ?hg (N := 7) ?hd (cs := #[.int .i64 0, .int .i64 0]) (t := 24) ?hr ?_; (case hd => rfl); (case hg => rfl); (case hr => first | (go_simp; done) | (go_simp; rfl)); intro gb120 hg w8 hbox hb; have n0_ := Aside0.mk (blk_below (g := gb118) (o := .cells #[.int .i64 a1_0, .int .i64 a1_1] 24 (0, 0)) (by (with_reducible repeat (first | refine blk_drewN ?_ _ | refine blk_drew ?_ | refine blk_alloc ?_ _)); exact BK118.out) hb); have n1_ := Aside0.mk (blk_below (g := gb119) (o := .cells #[.int .i64 a2_0, .int .i64 a2_1, .int .i64 a2_2, .int .i64 a2_3, .int .i64 a2_4, .int .i64 a2_5, .string a2_6, .int .i64 a2_7, .int .i64 a2_8, .string a2_9, .int .i64 a2_10, .int .i64 a2_11, .int .i64 a2_12, .string a2_13] 34 (0, 0)) (by (with_reducible repeat (first | refine blk_drewN ?_ _ | refine blk_drew ?_ | refine blk_alloc ?_ _)); exact BK119.out) hb); have n2_ := Aside0.mk (below_step (by repeat (first | (with_reducible first | exact HB.out | apply below_alloc | apply pw_below_drewN | apply below_drew1 | refine below_set ?_ GE118.out | refine below_set ?_ GE119.out) | exact HB.out)) hb); have n3_ := Aside0.mk (hbox); have n4_ := Aside0.mk ((by rw [hg]; exact (below_size (by repeat (first | (with_reducible first | exact HB.out | apply below_alloc | apply pw_below_drewN | apply below_drew1 | refine below_set ?_ GE118.out | refine below_set ?_ GE119.out) | exact HB.out))) : w.heap.size ≤ gb120)); have n5_ := Aside0.mk ((by rw [hg]; exact (below_size (by repeat (first | (with_reducible first | exact HB.out | apply below_alloc | apply pw_below_drewN | apply below_drew1 | refine below_set ?_ GE118.out | refine below_set ?_ GE119.out) | exact HB.out))) : w.heap.size ≤ gb120)); have n6_ := Aside0.mk ((by rw [hg]; exact Nat.ne_of_lt (blk_lt (g := gb118) (o := .cells #[.int .i64 a1_0, .int .i64 a1_1] 24 (0, 0)) (by (with_reducible repeat (first | refine blk_drewN ?_ _ | refine blk_drew ?_ | refine blk_alloc ?_ _)); exact BK118.out)) : gb118 ≠ gb120)); have n7_ := Aside0.mk ((by rw [hg]; exact Nat.ne_of_gt (blk_lt (g := gb118) (o := .cells #[.int .i64 a1_0, .int .i64 a1_1] 24 (0, 0)) (by (with_reducible repeat (first | refine blk_drewN ?_ _ | refine blk_drew ?_ | refine blk_alloc ?_ _)); exact BK118.out)) : gb120 ≠ gb118)); have n8_ := Aside0.mk ((by rw [hg]; exact Nat.ne_of_lt (blk_lt (g := gb119) (o := .cells #[.int .i64 a2_0, .int .i64 a2_1, .int .i64 a2_2, .int .i64 a2_3, .int .i64 a2_4, .int .i64 a2_5, .string a2_6, .int .i64 a2_7, .int .i64 a2_8, .string a2_9, .int .i64 a2_10, .int .i64 a2_11, .int .i64 a2_12, .string a2_13] 34 (0, 0)) (by (with_reducible repeat (first | refine blk_drewN ?_ _ | refine blk_drew ?_ | refine blk_alloc ?_ _)); exact BK119.out)) : gb119 ≠ gb120)); have n9_ := Aside0.mk ((by rw [hg]; exact Nat.ne_of_gt (blk_lt (g := gb119) (o := .cells #[.int .i64 a2_0, .int .i64 a2_1, .int .i64 a2_2, .int .i64 a2_3, .int .i64 a2_4, .int .i64 a2_5, .string a2_6, .int .i64 a2_7, .int .i64 a2_8, .string a2_9, .int .i64 a2_10, .int .i64 a2_11, .int .i64 a2_12, .string a2_13] 34 (0, 0)) (by (with_reducible repeat (first | refine blk_drewN ?_ _ | refine blk_drew ?_ | refine blk_alloc ?_ _)); exact BK119.out)) : gb120 ≠ gb119)); clear BK118; clear BK119; clear HB; have BK118 := n0_; have BK119 := n1_; have HB := n2_; have BK120 := n3_; have GW120 := n4_; have GE120 := n5_; have NB118_120 := n6_; have NB120_118 := n7_; have NB119_120 := n8_; have NB120_119 := n9_; clear n0_ n1_ n2_ n3_ n4_ n5_ n6_ n7_ n8_ n9_; clear hb hbox hg) | ((with_reducible refine gate_callee (f := 30) rfl ?_); refine goesL_ (some 11) rfl rfl Try.func30 (by kernel_rfl) rfl #[.slice A0 l0.length c0] rfl (by (try simp only [List.map_toArray, List.map_cons, List.map_nil]); first | done | rfl | (simp only [List.length_drop, List.length_take]; rfl)) ?_; (with_reducible refine (slices_Clone_N.calls _ _ l0 t121 _ ?side1 ?side2 A4.out).mono ?_); (case side1 => repeat (first | exact (Kd.C_below HR0.out HB.out) | (with_reducible refine Kd.C_alloc ?_ _) | (with_reducible refine Kd.C_drewN ?_ _) | (with_reducible refine Kd.C_drew ?_))); (case side2 => exact HC0.out); rintro e w9 ⟨v122, rfl, ho0, hb⟩; refine ⟨_, rfl, ?_⟩; have n0_ := Aside0.mk (Kd.R_lower (Kd.R_newB ho0 (g := gb119) (o := .cells #[.int .i64 a2_0, .int .i64 a2_1, .int .i64 a2_2, .int .i64 a2_3, .int .i64 a2_4, .int .i64 a2_5, .string a2_6, .int .i64 a2_7, .int .i64 a2_8, .string a2_9, .int .i64 a2_10, .int .i64 a2_11, .int .i64 a2_12, .string a2_13] 34 (0, 0)) (by (with_reducible repeat (first | refine blk_drewN ?_ _ | refine blk_drew ?_ | refine blk_alloc ?_ _)); exact BK119.out)) (below_size (by repeat (first | (with_reducible first | exact HB.out | apply below_alloc | apply pw_below_drewN | apply below_drew1 | refine below_set ?_ GE118.out | refine below_set ?_ GE119.out | refine below_set ?_ GE120.out) | exact HB.out)))); have n1_ := Aside0.mk (blk_below (g := gb118) (o := .cells #[.int .i64 a1_0, .int .i64 a1_1] 24 (0, 0)) (by (with_reducible repeat (first | refine blk_drewN ?_ _ | refine blk_drew ?_ | refine blk_alloc ?_ _)); exact BK118.out) hb); have n2_ := Aside0.mk (blk_below (g := gb119) (o := .cells #[.int .i64 a2_0, .int .i64 a2_1, .int .i64 a2_2, .int .i64 a2_3, .int .i64 a2_4, .int .i64 a2_5, .string a2_6, .int .i64 a2_7, .int .i64 a2_8, .string a2_9, .int .i64 a2_10, .int .i64 a2_11, .int .i64 a2_12, .string a2_13] 34 (0, 0)) (by (with_reducible repeat (first | refine blk_drewN ?_ _ | refine blk_drew ?_ | refine blk_alloc ?_ _)); exact BK119.out) hb); have n3_ := Aside0.mk (blk_below (g := gb120) (o := .cells #[.int .i64 0, .int .i64 0] 24 (0, 0)) (by (with_reducible repeat (first | refine blk_drewN ?_ _ | refine blk_drew ?_ | refine blk_alloc ?_ _)); exact BK120.out) hb); have n4_ := Aside0.mk (below_step (by repeat (first | (with_reducible first | exact HB.out | apply below_alloc | apply pw_below_drewN | apply below_drew1 | refine below_set ?_ GE118.out | refine below_set ?_ GE119.out | refine below_set ?_ GE120.out) | exact HB.out)) hb); clear BK118; clear BK119; clear BK120; clear HB; have HO123 := n0_; have BK118 := n1_; have BK119 := n2_; have BK120 := n3_; have HB := n4_; clear n0_ n1_ n2_ n3_ n4_; (try clear hb); (try clear hb2); (try clear hk); (try clear hi); (try clear ho0)))
  (try simp only [Act.put, List.setIfInBounds_toArray, List.set_cons_zero, List.set_cons_succ])
  go_cut [31] (fun v31 wc => ∃ (kq : Nat) (x31_4 : Bool), v31 = .bool x31_4 ∧ Aside0 (pglog_Append.j0 kq t121 x31_4 a1_0 a1_1 a2_0 a2_1 a2_2 a2_3 a2_4 a2_5 a2_6 a2_7 a2_8 a2_9 a2_10 a2_11 a2_12 a2_13 = some (r1, r2, r3, r4)) ∧ Aside0 (kq ≤ k) ∧ Aside0 (Kd.Q k34 34 wc w.heap.size (fun k_ => k_ ≠ gb119) v122 t121) ∧ Aside0 (wc.heap[gb118]? = some (.cells #[.int .i64 a1_0, .int .i64 a1_1] 24 (0, 0))) ∧ Aside0 (wc.heap[gb119]? = some (.cells #[.int .i64 a2_0, .int .i64 a2_1, .int .i64 a2_2, .int .i64 a2_3, .int .i64 a2_4, .int .i64 a2_5, .string a2_6, .int .i64 a2_7, .int .i64 a2_8, .string a2_9, .int .i64 a2_10, .int .i64 a2_11, .int .i64 a2_12, .string a2_13] 34 (0, 0))) ∧ Aside0 (wc.heap[gb120]? = some (.cells #[.int .i64 0, .int .i64 0] 24 (0, 0))) ∧ Aside0 (Below w.heap.size w wc))
  case first =>
    have H := HC5.out
    clear HC5
    replace H := Option.bind_eq_some_iff.mp H
    obtain ⟨t124, A100, H⟩ := H
    replace H : (if t124 = true then (if a2_1 = (wrap64 (a1_1 + 1)) then (pglog_Append.j0 k t121 (decide (a2_0 < a1_0)) a1_0 a1_1 a2_0 a2_1 a2_2 a2_3 a2_4 a2_5 a2_6 a2_7 a2_8 a2_9 a2_10 a2_11 a2_12 a2_13) else (pglog_Append.j0 k t121 true a1_0 a1_1 a2_0 a2_1 a2_2 a2_3 a2_4 a2_5 a2_6 a2_7 a2_8 a2_9 a2_10 a2_11 a2_12 a2_13)) else (pglog_Append.j0 k t121 true a1_0 a1_1 a2_0 a2_1 a2_2 a2_3 a2_4 a2_5 a2_6 a2_7 a2_8 a2_9 a2_10 a2_11 a2_12 a2_13)) = some (r1, r2, r3, r4) := H
    have A10 := Aside0.mk A100
    clear A100
    by_cases c11 : t124 = true
    · subst c11
      have H1 : (if a2_1 = (wrap64 (a1_1 + 1)) then (pglog_Append.j0 k t121 (decide (a2_0 < a1_0)) a1_0 a1_1 a2_0 a2_1 a2_2 a2_3 a2_4 a2_5 a2_6 a2_7 a2_8 a2_9 a2_10 a2_11 a2_12 a2_13) else (pglog_Append.j0 k t121 true a1_0 a1_1 a2_0 a2_1 a2_2 a2_3 a2_4 a2_5 a2_6 a2_7 a2_8 a2_9 a2_10 a2_11 a2_12 a2_13)) = some (r1, r2, r3, r4) := by rw [if_pos rfl] at H; exact H
      clear H
      have H := H1
      clear H1
      by_cases c12 : a2_1 = (wrap64 (a1_1 + 1))
      · rw [if_pos c12] at H
        have c12b0 : (a2_1 == (wrap64 (a1_1 + 1))) = true := beq_iff_eq.mpr c12
        have c12b1 : (a2_1 != (wrap64 (a1_1 + 1))) = false := bne_eq_false_iff_eq.mpr c12
        clear c12
        (first | rw [c12b0] | (simp only [i64_w, i32_w]; rw [c12b0]) | skip)
        have H' := Aside0.mk H
        clear H
        have hnb13 := NB119_118.out
        have hnc13 := NB118_119.out
        have hnb14 := NB119_120.out
        have hnc14 := NB120_119.out
        have hcz15_0 : w9.cell? ⟨gb119, 0, none⟩ = some (.int .i64 a2_0) := (blk_cell BK119.out 0).trans rfl
        have hcz15_1 : w9.cell? ⟨gb119, 1, none⟩ = some (.int .i64 a2_1) := (blk_cell BK119.out 1).trans rfl
        have hcz15_2 : w9.cell? ⟨gb119, 2, none⟩ = some (.int .i64 a2_2) := (blk_cell BK119.out 2).trans rfl
        have hcz15_3 : w9.cell? ⟨gb119, 3, none⟩ = some (.int .i64 a2_3) := (blk_cell BK119.out 3).trans rfl
        have hcz15_4 : w9.cell? ⟨gb119, 4, none⟩ = some (.int .i64 a2_4) := (blk_cell BK119.out 4).trans rfl
        have hcz15_5 : w9.cell? ⟨gb119, 5, none⟩ = some (.int .i64 a2_5) := (blk_cell BK119.out 5).trans rfl
        have hcz15_6 : w9.cell? ⟨gb119, 6, none⟩ = some (.string a2_6) := (blk_cell BK119.out 6).trans rfl
        have hcz15_7 : w9.cell? ⟨gb119, 7, none⟩ = some (.int .i64 a2_7) := (blk_cell BK119.out 7).trans rfl
        have hcz15_8 : w9.cell? ⟨gb119, 8, none⟩ = some (.int .i64 a2_8) := (blk_cell BK119.out 8).trans rfl
        have hcz15_9 : w9.cell? ⟨gb119, 9, none⟩ = some (.string a2_9) := (blk_cell BK119.out 9).trans rfl
        have hcz15_10 : w9.cell? ⟨gb119, 10, none⟩ = some (.int .i64 a2_10) := (blk_cell BK119.out 10).trans rfl
        have hcz15_11 : w9.cell? ⟨gb119, 11, none⟩ = some (.int .i64 a2_11) := (blk_cell BK119.out 11).trans rfl
        have hcz15_12 : w9.cell? ⟨gb119, 12, none⟩ = some (.int .i64 a2_12) := (blk_cell BK119.out 12).trans rfl
        have hcz15_13 : w9.cell? ⟨gb119, 13, none⟩ = some (.string a2_13) := (blk_cell BK119.out 13).trans rfl
        have hfz15_0 := blk_frozen BK119.out 0
        have hfz15_1 := blk_frozen BK119.out 1
        have hfz15_2 := blk_frozen BK119.out 2
        have hfz15_3 := blk_frozen BK119.out 3
        have hfz15_4 := blk_frozen BK119.out 4
        have hfz15_5 := blk_frozen BK119.out 5
        have hfz15_6 := blk_frozen BK119.out 6
        have hfz15_7 := blk_frozen BK119.out 7
        have hfz15_8 := blk_frozen BK119.out 8
        have hfz15_9 := blk_frozen BK119.out 9
        have hfz15_10 := blk_frozen BK119.out 10
        have hfz15_11 := blk_frozen BK119.out 11
        have hfz15_12 := blk_frozen BK119.out 12
        have hfz15_13 := blk_frozen BK119.out 13
        go_wp2_with (first | ((with_reducible refine gate_callee (f := 22) rfl ?_); refine goesL_ (some 13) rfl rfl Try.func22 (by kernel_rfl) rfl #[.agg #[.int .i64 a2_0, .int .i64 a2_1, .int .i64 a2_2, .int .i64 a2_3, .int .i64 a2_4, .int .i64 a2_5, .string a2_6, .int .i64 a2_7, .int .i64 a2_8, .string a2_9, .int .i64 a2_10, .int .i64 a2_11, .int .i64 a2_12, .string a2_13]] rfl (by (try simp only [List.map_toArray, List.map_cons, List.map_nil]); first | done | rfl | (simp only [List.length_drop, List.length_take]; rfl)) ?_; (with_reducible refine (pglog_Entry.calls k a2_0 a2_1 a2_2 a2_3 a2_4 a2_5 a2_6 a2_7 a2_8 a2_9 a2_10 a2_11 a2_12 a2_13 true _ A10.out).mono ?_); rintro e w16 ⟨rfl, hb⟩; refine ⟨_, rfl, ?_⟩; have n0_ := Aside0.mk (Kd.R_below (by (with_reducible repeat (first | apply Kd.R_alloc | apply Kd.R_drewN | apply Kd.R_drew)); exact HO123.out) hb); have n1_ := Aside0.mk (blk_below (g := gb118) (o := .cells #[.int .i64 a1_0, .int .i64 a1_1] 24 (0, 0)) (by (with_reducible repeat (first | refine blk_drewN ?_ _ | refine blk_drew ?_ | refine blk_alloc ?_ _)); exact BK118.out) hb); have n2_ := Aside0.mk (blk_below (g := gb119) (o := .cells #[.int .i64 a2_0, .int .i64 a2_1, .int .i64 a2_2, .int .i64 a2_3, .int .i64 a2_4, .int .i64 a2_5, .string a2_6, .int .i64 a2_7, .int .i64 a2_8, .string a2_9, .int .i64 a2_10, .int .i64 a2_11, .int .i64 a2_12, .string a2_13] 34 (0, 0)) (by (with_reducible repeat (first | refine blk_drewN ?_ _ | refine blk_drew ?_ | refine blk_alloc ?_ _)); exact BK119.out) hb); have n3_ := Aside0.mk (blk_below (g := gb120) (o := .cells #[.int .i64 0, .int .i64 0] 24 (0, 0)) (by (with_reducible repeat (first | refine blk_drewN ?_ _ | refine blk_drew ?_ | refine blk_alloc ?_ _)); exact BK120.out) hb); have n4_ := Aside0.mk (below_step (by repeat (first | (with_reducible first | exact HB.out | apply below_alloc | apply pw_below_drewN | apply below_drew1 | refine below_set ?_ GE118.out | refine below_set ?_ GE119.out | refine below_set ?_ GE120.out) | exact HB.out)) hb); clear HO123; clear BK118; clear BK119; clear BK120; clear HB; have HO123 := n0_; have BK118 := n1_; have BK119 := n2_; have BK120 := n3_; have HB := n4_; clear n0_ n1_ n2_ n3_ n4_; (try clear hb); (try clear hb2); (try clear hk); (try clear hi); have hcz17_0 : w16.cell? ⟨gb119, 0, none⟩ = some (.int .i64 a2_0) := (blk_cell BK119.out 0).trans rfl; have hcz17_1 : w16.cell? ⟨gb119, 1, none⟩ = some (.int .i64 a2_1) := (blk_cell BK119.out 1).trans rfl; have hcz17_2 : w16.cell? ⟨gb119, 2, none⟩ = some (.int .i64 a2_2) := (blk_cell BK119.out 2).trans rfl; have hcz17_3 : w16.cell? ⟨gb119, 3, none⟩ = some (.int .i64 a2_3) := (blk_cell BK119.out 3).trans rfl; have hcz17_4 : w16.cell? ⟨gb119, 4, none⟩ = some (.int .i64 a2_4) := (blk_cell BK119.out 4).trans rfl; have hcz17_5 : w16.cell? ⟨gb119, 5, none⟩ = some (.int .i64 a2_5) := (blk_cell BK119.out 5).trans rfl; have hcz17_6 : w16.cell? ⟨gb119, 6, none⟩ = some (.string a2_6) := (blk_cell BK119.out 6).trans rfl; have hcz17_7 : w16.cell? ⟨gb119, 7, none⟩ = some (.int .i64 a2_7) := (blk_cell BK119.out 7).trans rfl; have hcz17_8 : w16.cell? ⟨gb119, 8, none⟩ = some (.int .i64 a2_8) := (blk_cell BK119.out 8).trans rfl; have hcz17_9 : w16.cell? ⟨gb119, 9, none⟩ = some (.string a2_9) := (blk_cell BK119.out 9).trans rfl; have hcz17_10 : w16.cell? ⟨gb119, 10, none⟩ = some (.int .i64 a2_10) := (blk_cell BK119.out 10).trans rfl; have hcz17_11 : w16.cell? ⟨gb119, 11, none⟩ = some (.int .i64 a2_11) := (blk_cell BK119.out 11).trans rfl; have hcz17_12 : w16.cell? ⟨gb119, 12, none⟩ = some (.int .i64 a2_12) := (blk_cell BK119.out 12).trans rfl; have hcz17_13 : w16.cell? ⟨gb119, 13, none⟩ = some (.string a2_13) := (blk_cell BK119.out 13).trans rfl; have hfz17_0 := blk_frozen BK119.out 0; have hfz17_1 := blk_frozen BK119.out 1; have hfz17_2 := blk_frozen BK119.out 2; have hfz17_3 := blk_frozen BK119.out 3; have hfz17_4 := blk_frozen BK119.out 4; have hfz17_5 := blk_frozen BK119.out 5; have hfz17_6 := blk_frozen BK119.out 6; have hfz17_7 := blk_frozen BK119.out 7; have hfz17_8 := blk_frozen BK119.out 8; have hfz17_9 := blk_frozen BK119.out 9; have hfz17_10 := blk_frozen BK119.out 10; have hfz17_11 := blk_frozen BK119.out 11; have hfz17_12 := blk_frozen BK119.out 12; have hfz17_13 := blk_frozen BK119.out 13; have hnb18 := NB118_120.out; have hnc18 := NB120_118.out; have hcz19_0 : w16.cell? ⟨gb118, 0, none⟩ = some (.int .i64 a1_0) := (blk_cell BK118.out 0).trans rfl; have hcz19_1 : w16.cell? ⟨gb118, 1, none⟩ = some (.int .i64 a1_1) := (blk_cell BK118.out 1).trans rfl; have hfz19_0 := blk_frozen BK118.out 0; have hfz19_1 := blk_frozen BK118.out 1))
        go_meet
        case rel => exact ⟨_, (decide (a2_0 < a1_0)), (by first | rfl | (simp; done) | (simp [*]; done)), H', ⟨by first | omega | exact Nat.le_refl _⟩, ⟨Kd.Q_of_R (by (with_reducible repeat (first | apply Kd.R_alloc | apply Kd.R_drewN | apply Kd.R_drew)); exact Kd.R_mono HO123.out (fun _ hk => hk.2))⟩, ⟨by (with_reducible repeat (first | refine blk_drewN ?_ _ | refine blk_drew ?_ | refine blk_alloc ?_ _)); exact BK118.out⟩, ⟨by (with_reducible repeat (first | refine blk_drewN ?_ _ | refine blk_drew ?_ | refine blk_alloc ?_ _)); exact BK119.out⟩, ⟨by (with_reducible repeat (first | refine blk_drewN ?_ _ | refine blk_drew ?_ | refine blk_alloc ?_ _)); exact BK120.out⟩, ⟨by repeat (first | (with_reducible first | exact HB.out | apply below_alloc | apply pw_below_drewN | apply below_drew1 | refine below_set ?_ GE118.out | refine below_set ?_ GE119.out | refine below_set ?_ GE120.out) | exact HB.out)⟩⟩
      · rw [if_neg c12] at H
        have c12b0 : (a2_1 == (wrap64 (a1_1 + 1))) = false := beq_eq_false_iff_ne.mpr c12
        have c12b1 : (a2_1 != (wrap64 (a1_1 + 1))) = true := bne_iff_ne.mpr c12
        (first | rw [c12b0] | (simp only [i64_w, i32_w]; rw [c12b0]) | skip)
        have H' := Aside0.mk H
        clear H
        have hnb20 := NB119_118.out
        have hnc20 := NB118_119.out
        have hnb21 := NB119_120.out
        have hnc21 := NB120_119.out
        have hcz22_0 : w9.cell? ⟨gb119, 0, none⟩ = some (.int .i64 a2_0) := (blk_cell BK119.out 0).trans rfl
        have hcz22_1 : w9.cell? ⟨gb119, 1, none⟩ = some (.int .i64 a2_1) := (blk_cell BK119.out 1).trans rfl
        have hcz22_2 : w9.cell? ⟨gb119, 2, none⟩ = some (.int .i64 a2_2) := (blk_cell BK119.out 2).trans rfl
        have hcz22_3 : w9.cell? ⟨gb119, 3, none⟩ = some (.int .i64 a2_3) := (blk_cell BK119.out 3).trans rfl
        have hcz22_4 : w9.cell? ⟨gb119, 4, none⟩ = some (.int .i64 a2_4) := (blk_cell BK119.out 4).trans rfl
        have hcz22_5 : w9.cell? ⟨gb119, 5, none⟩ = some (.int .i64 a2_5) := (blk_cell BK119.out 5).trans rfl
        have hcz22_6 : w9.cell? ⟨gb119, 6, none⟩ = some (.string a2_6) := (blk_cell BK119.out 6).trans rfl
        have hcz22_7 : w9.cell? ⟨gb119, 7, none⟩ = some (.int .i64 a2_7) := (blk_cell BK119.out 7).trans rfl
        have hcz22_8 : w9.cell? ⟨gb119, 8, none⟩ = some (.int .i64 a2_8) := (blk_cell BK119.out 8).trans rfl
        have hcz22_9 : w9.cell? ⟨gb119, 9, none⟩ = some (.string a2_9) := (blk_cell BK119.out 9).trans rfl
        have hcz22_10 : w9.cell? ⟨gb119, 10, none⟩ = some (.int .i64 a2_10) := (blk_cell BK119.out 10).trans rfl
        have hcz22_11 : w9.cell? ⟨gb119, 11, none⟩ = some (.int .i64 a2_11) := (blk_cell BK119.out 11).trans rfl
        have hcz22_12 : w9.cell? ⟨gb119, 12, none⟩ = some (.int .i64 a2_12) := (blk_cell BK119.out 12).trans rfl
        have hcz22_13 : w9.cell? ⟨gb119, 13, none⟩ = some (.string a2_13) := (blk_cell BK119.out 13).trans rfl
        have hfz22_0 := blk_frozen BK119.out 0
        have hfz22_1 := blk_frozen BK119.out 1
        have hfz22_2 := blk_frozen BK119.out 2
        have hfz22_3 := blk_frozen BK119.out 3
        have hfz22_4 := blk_frozen BK119.out 4
        have hfz22_5 := blk_frozen BK119.out 5
        have hfz22_6 := blk_frozen BK119.out 6
        have hfz22_7 := blk_frozen BK119.out 7
        have hfz22_8 := blk_frozen BK119.out 8
        have hfz22_9 := blk_frozen BK119.out 9
        have hfz22_10 := blk_frozen BK119.out 10
        have hfz22_11 := blk_frozen BK119.out 11
        have hfz22_12 := blk_frozen BK119.out 12
        have hfz22_13 := blk_frozen BK119.out 13
        go_wp2_with (first | ((with_reducible refine gate_callee (f := 22) rfl ?_); refine goesL_ (some 13) rfl rfl Try.func22 (by kernel_rfl) rfl #[.agg #[.int .i64 a2_0, .int .i64 a2_1, .int .i64 a2_2, .int .i64 a2_3, .int .i64 a2_4, .int .i64 a2_5, .string a2_6, .int .i64 a2_7, .int .i64 a2_8, .string a2_9, .int .i64 a2_10, .int .i64 a2_11, .int .i64 a2_12, .string a2_13]] rfl (by (try simp only [List.map_toArray, List.map_cons, List.map_nil]); first | done | rfl | (simp only [List.length_drop, List.length_take]; rfl)) ?_; (with_reducible refine (pglog_Entry.calls k a2_0 a2_1 a2_2 a2_3 a2_4 a2_5 a2_6 a2_7 a2_8 a2_9 a2_10 a2_11 a2_12 a2_13 true _ A10.out).mono ?_); rintro e w23 ⟨rfl, hb⟩; refine ⟨_, rfl, ?_⟩; have n0_ := Aside0.mk (Kd.R_below (by (with_reducible repeat (first | apply Kd.R_alloc | apply Kd.R_drewN | apply Kd.R_drew)); exact HO123.out) hb); have n1_ := Aside0.mk (blk_below (g := gb118) (o := .cells #[.int .i64 a1_0, .int .i64 a1_1] 24 (0, 0)) (by (with_reducible repeat (first | refine blk_drewN ?_ _ | refine blk_drew ?_ | refine blk_alloc ?_ _)); exact BK118.out) hb); have n2_ := Aside0.mk (blk_below (g := gb119) (o := .cells #[.int .i64 a2_0, .int .i64 a2_1, .int .i64 a2_2, .int .i64 a2_3, .int .i64 a2_4, .int .i64 a2_5, .string a2_6, .int .i64 a2_7, .int .i64 a2_8, .string a2_9, .int .i64 a2_10, .int .i64 a2_11, .int .i64 a2_12, .string a2_13] 34 (0, 0)) (by (with_reducible repeat (first | refine blk_drewN ?_ _ | refine blk_drew ?_ | refine blk_alloc ?_ _)); exact BK119.out) hb); have n3_ := Aside0.mk (blk_below (g := gb120) (o := .cells #[.int .i64 0, .int .i64 0] 24 (0, 0)) (by (with_reducible repeat (first | refine blk_drewN ?_ _ | refine blk_drew ?_ | refine blk_alloc ?_ _)); exact BK120.out) hb); have n4_ := Aside0.mk (below_step (by repeat (first | (with_reducible first | exact HB.out | apply below_alloc | apply pw_below_drewN | apply below_drew1 | refine below_set ?_ GE118.out | refine below_set ?_ GE119.out | refine below_set ?_ GE120.out) | exact HB.out)) hb); clear HO123; clear BK118; clear BK119; clear BK120; clear HB; have HO123 := n0_; have BK118 := n1_; have BK119 := n2_; have BK120 := n3_; have HB := n4_; clear n0_ n1_ n2_ n3_ n4_; (try clear hb); (try clear hb2); (try clear hk); (try clear hi); have hcz24_0 : w23.cell? ⟨gb119, 0, none⟩ = some (.int .i64 a2_0) := (blk_cell BK119.out 0).trans rfl; have hcz24_1 : w23.cell? ⟨gb119, 1, none⟩ = some (.int .i64 a2_1) := (blk_cell BK119.out 1).trans rfl; have hcz24_2 : w23.cell? ⟨gb119, 2, none⟩ = some (.int .i64 a2_2) := (blk_cell BK119.out 2).trans rfl; have hcz24_3 : w23.cell? ⟨gb119, 3, none⟩ = some (.int .i64 a2_3) := (blk_cell BK119.out 3).trans rfl; have hcz24_4 : w23.cell? ⟨gb119, 4, none⟩ = some (.int .i64 a2_4) := (blk_cell BK119.out 4).trans rfl; have hcz24_5 : w23.cell? ⟨gb119, 5, none⟩ = some (.int .i64 a2_5) := (blk_cell BK119.out 5).trans rfl; have hcz24_6 : w23.cell? ⟨gb119, 6, none⟩ = some (.string a2_6) := (blk_cell BK119.out 6).trans rfl; have hcz24_7 : w23.cell? ⟨gb119, 7, none⟩ = some (.int .i64 a2_7) := (blk_cell BK119.out 7).trans rfl; have hcz24_8 : w23.cell? ⟨gb119, 8, none⟩ = some (.int .i64 a2_8) := (blk_cell BK119.out 8).trans rfl; have hcz24_9 : w23.cell? ⟨gb119, 9, none⟩ = some (.string a2_9) := (blk_cell BK119.out 9).trans rfl; have hcz24_10 : w23.cell? ⟨gb119, 10, none⟩ = some (.int .i64 a2_10) := (blk_cell BK119.out 10).trans rfl; have hcz24_11 : w23.cell? ⟨gb119, 11, none⟩ = some (.int .i64 a2_11) := (blk_cell BK119.out 11).trans rfl; have hcz24_12 : w23.cell? ⟨gb119, 12, none⟩ = some (.int .i64 a2_12) := (blk_cell BK119.out 12).trans rfl; have hcz24_13 : w23.cell? ⟨gb119, 13, none⟩ = some (.string a2_13) := (blk_cell BK119.out 13).trans rfl; have hfz24_0 := blk_frozen BK119.out 0; have hfz24_1 := blk_frozen BK119.out 1; have hfz24_2 := blk_frozen BK119.out 2; have hfz24_3 := blk_frozen BK119.out 3; have hfz24_4 := blk_frozen BK119.out 4; have hfz24_5 := blk_frozen BK119.out 5; have hfz24_6 := blk_frozen BK119.out 6; have hfz24_7 := blk_frozen BK119.out 7; have hfz24_8 := blk_frozen BK119.out 8; have hfz24_9 := blk_frozen BK119.out 9; have hfz24_10 := blk_frozen BK119.out 10; have hfz24_11 := blk_frozen BK119.out 11; have hfz24_12 := blk_frozen BK119.out 12; have hfz24_13 := blk_frozen BK119.out 13; have hnb25 := NB118_120.out; have hnc25 := NB120_118.out; have hcz26_0 : w23.cell? ⟨gb118, 0, none⟩ = some (.int .i64 a1_0) := (blk_cell BK118.out 0).trans rfl; have hcz26_1 : w23.cell? ⟨gb118, 1, none⟩ = some (.int .i64 a1_1) := (blk_cell BK118.out 1).trans rfl; have hfz26_0 := blk_frozen BK118.out 0; have hfz26_1 := blk_frozen BK118.out 1))
        go_meet
        case rel => exact ⟨_, (true), (by first | rfl | (simp; done) | (simp [*]; done)), H', ⟨by first | omega | exact Nat.le_refl _⟩, ⟨Kd.Q_of_R (by (with_reducible repeat (first | apply Kd.R_alloc | apply Kd.R_drewN | apply Kd.R_drew)); exact Kd.R_mono HO123.out (fun _ hk => hk.2))⟩, ⟨by (with_reducible repeat (first | refine blk_drewN ?_ _ | refine blk_drew ?_ | refine blk_alloc ?_ _)); exact BK118.out⟩, ⟨by (with_reducible repeat (first | refine blk_drewN ?_ _ | refine blk_drew ?_ | refine blk_alloc ?_ _)); exact BK119.out⟩, ⟨by (with_reducible repeat (first | refine blk_drewN ?_ _ | refine blk_drew ?_ | refine blk_alloc ?_ _)); exact BK120.out⟩, ⟨by repeat (first | (with_reducible first | exact HB.out | apply below_alloc | apply pw_below_drewN | apply below_drew1 | refine below_set ?_ GE118.out | refine below_set ?_ GE119.out | refine below_set ?_ GE120.out) | exact HB.out)⟩⟩
    · replace c11 := Bool.eq_false_iff.mpr c11
      subst c11
      have H1 : (pglog_Append.j0 k t121 true a1_0 a1_1 a2_0 a2_1 a2_2 a2_3 a2_4 a2_5 a2_6 a2_7 a2_8 a2_9 a2_10 a2_11 a2_12 a2_13) = some (r1, r2, r3, r4) := by rw [if_neg (show ¬ (false = true) by decide)] at H; exact H
      clear H
      have H := H1
      clear H1
      have H' := Aside0.mk H
      clear H
      have hnb27 := NB119_118.out
      have hnc27 := NB118_119.out
      have hnb28 := NB119_120.out
      have hnc28 := NB120_119.out
      have hcz29_0 : w9.cell? ⟨gb119, 0, none⟩ = some (.int .i64 a2_0) := (blk_cell BK119.out 0).trans rfl
      have hcz29_1 : w9.cell? ⟨gb119, 1, none⟩ = some (.int .i64 a2_1) := (blk_cell BK119.out 1).trans rfl
      have hcz29_2 : w9.cell? ⟨gb119, 2, none⟩ = some (.int .i64 a2_2) := (blk_cell BK119.out 2).trans rfl
      have hcz29_3 : w9.cell? ⟨gb119, 3, none⟩ = some (.int .i64 a2_3) := (blk_cell BK119.out 3).trans rfl
      have hcz29_4 : w9.cell? ⟨gb119, 4, none⟩ = some (.int .i64 a2_4) := (blk_cell BK119.out 4).trans rfl
      have hcz29_5 : w9.cell? ⟨gb119, 5, none⟩ = some (.int .i64 a2_5) := (blk_cell BK119.out 5).trans rfl
      have hcz29_6 : w9.cell? ⟨gb119, 6, none⟩ = some (.string a2_6) := (blk_cell BK119.out 6).trans rfl
      have hcz29_7 : w9.cell? ⟨gb119, 7, none⟩ = some (.int .i64 a2_7) := (blk_cell BK119.out 7).trans rfl
      have hcz29_8 : w9.cell? ⟨gb119, 8, none⟩ = some (.int .i64 a2_8) := (blk_cell BK119.out 8).trans rfl
      have hcz29_9 : w9.cell? ⟨gb119, 9, none⟩ = some (.string a2_9) := (blk_cell BK119.out 9).trans rfl
      have hcz29_10 : w9.cell? ⟨gb119, 10, none⟩ = some (.int .i64 a2_10) := (blk_cell BK119.out 10).trans rfl
      have hcz29_11 : w9.cell? ⟨gb119, 11, none⟩ = some (.int .i64 a2_11) := (blk_cell BK119.out 11).trans rfl
      have hcz29_12 : w9.cell? ⟨gb119, 12, none⟩ = some (.int .i64 a2_12) := (blk_cell BK119.out 12).trans rfl
      have hcz29_13 : w9.cell? ⟨gb119, 13, none⟩ = some (.string a2_13) := (blk_cell BK119.out 13).trans rfl
      have hfz29_0 := blk_frozen BK119.out 0
      have hfz29_1 := blk_frozen BK119.out 1
      have hfz29_2 := blk_frozen BK119.out 2
      have hfz29_3 := blk_frozen BK119.out 3
      have hfz29_4 := blk_frozen BK119.out 4
      have hfz29_5 := blk_frozen BK119.out 5
      have hfz29_6 := blk_frozen BK119.out 6
      have hfz29_7 := blk_frozen BK119.out 7
      have hfz29_8 := blk_frozen BK119.out 8
      have hfz29_9 := blk_frozen BK119.out 9
      have hfz29_10 := blk_frozen BK119.out 10
      have hfz29_11 := blk_frozen BK119.out 11
      have hfz29_12 := blk_frozen BK119.out 12
      have hfz29_13 := blk_frozen BK119.out 13
      go_wp2_with (first | ((with_reducible refine gate_callee (f := 22) rfl ?_); refine goesL_ (some 13) rfl rfl Try.func22 (by kernel_rfl) rfl #[.agg #[.int .i64 a2_0, .int .i64 a2_1, .int .i64 a2_2, .int .i64 a2_3, .int .i64 a2_4, .int .i64 a2_5, .string a2_6, .int .i64 a2_7, .int .i64 a2_8, .string a2_9, .int .i64 a2_10, .int .i64 a2_11, .int .i64 a2_12, .string a2_13]] rfl (by (try simp only [List.map_toArray, List.map_cons, List.map_nil]); first | done | rfl | (simp only [List.length_drop, List.length_take]; rfl)) ?_; (with_reducible refine (pglog_Entry.calls k a2_0 a2_1 a2_2 a2_3 a2_4 a2_5 a2_6 a2_7 a2_8 a2_9 a2_10 a2_11 a2_12 a2_13 false _ A10.out).mono ?_); rintro e w30 ⟨rfl, hb⟩; refine ⟨_, rfl, ?_⟩; have n0_ := Aside0.mk (Kd.R_below (by (with_reducible repeat (first | apply Kd.R_alloc | apply Kd.R_drewN | apply Kd.R_drew)); exact HO123.out) hb); have n1_ := Aside0.mk (blk_below (g := gb118) (o := .cells #[.int .i64 a1_0, .int .i64 a1_1] 24 (0, 0)) (by (with_reducible repeat (first | refine blk_drewN ?_ _ | refine blk_drew ?_ | refine blk_alloc ?_ _)); exact BK118.out) hb); have n2_ := Aside0.mk (blk_below (g := gb119) (o := .cells #[.int .i64 a2_0, .int .i64 a2_1, .int .i64 a2_2, .int .i64 a2_3, .int .i64 a2_4, .int .i64 a2_5, .string a2_6, .int .i64 a2_7, .int .i64 a2_8, .string a2_9, .int .i64 a2_10, .int .i64 a2_11, .int .i64 a2_12, .string a2_13] 34 (0, 0)) (by (with_reducible repeat (first | refine blk_drewN ?_ _ | refine blk_drew ?_ | refine blk_alloc ?_ _)); exact BK119.out) hb); have n3_ := Aside0.mk (blk_below (g := gb120) (o := .cells #[.int .i64 0, .int .i64 0] 24 (0, 0)) (by (with_reducible repeat (first | refine blk_drewN ?_ _ | refine blk_drew ?_ | refine blk_alloc ?_ _)); exact BK120.out) hb); have n4_ := Aside0.mk (below_step (by repeat (first | (with_reducible first | exact HB.out | apply below_alloc | apply pw_below_drewN | apply below_drew1 | refine below_set ?_ GE118.out | refine below_set ?_ GE119.out | refine below_set ?_ GE120.out) | exact HB.out)) hb); clear HO123; clear BK118; clear BK119; clear BK120; clear HB; have HO123 := n0_; have BK118 := n1_; have BK119 := n2_; have BK120 := n3_; have HB := n4_; clear n0_ n1_ n2_ n3_ n4_; (try clear hb); (try clear hb2); (try clear hk); (try clear hi)))
      go_meet
      case rel => exact ⟨_, (true), (by first | rfl | (simp; done) | (simp [*]; done)), H', ⟨by first | omega | exact Nat.le_refl _⟩, ⟨Kd.Q_of_R (by (with_reducible repeat (first | apply Kd.R_alloc | apply Kd.R_drewN | apply Kd.R_drew)); exact Kd.R_mono HO123.out (fun _ hk => hk.2))⟩, ⟨by (with_reducible repeat (first | refine blk_drewN ?_ _ | refine blk_drew ?_ | refine blk_alloc ?_ _)); exact BK118.out⟩, ⟨by (with_reducible repeat (first | refine blk_drewN ?_ _ | refine blk_drew ?_ | refine blk_alloc ?_ _)); exact BK119.out⟩, ⟨by (with_reducible repeat (first | refine blk_drewN ?_ _ | refine blk_drew ?_ | refine blk_alloc ?_ _)); exact BK120.out⟩, ⟨by repeat (first | (with_reducible first | exact HB.out | apply below_alloc | apply pw_below_drewN | apply below_drew1 | refine below_set ?_ GE118.out | refine below_set ?_ GE119.out | refine below_set ?_ GE120.out) | exact HB.out)⟩⟩
  case rest =>
    clear HC5
    try clear c1
    try clear c2
    try clear p2
    try clear c3
    try clear p6
    try clear c8
    try clear c11
    try clear c12
    try clear c12b0
    try clear c12b1
    try clear c13
    try clear c14
    try clear c18
    try clear c20
    try clear c21
    try clear c22
    try clear c25
    try clear c27
    try clear c28
    try clear c30
    try clear hcz15_0
    try clear hcz15_1
    try clear hcz15_10
    try clear hcz15_11
    try clear hcz15_12
    try clear hcz15_13
    try clear hcz15_2
    try clear hcz15_3
    try clear hcz15_4
    try clear hcz15_5
    try clear hcz15_6
    try clear hcz15_7
    try clear hcz15_8
    try clear hcz15_9
    try clear hcz17_0
    try clear hcz17_1
    try clear hcz17_10
    try clear hcz17_11
    try clear hcz17_12
    try clear hcz17_13
    try clear hcz17_2
    try clear hcz17_3
    try clear hcz17_4
    try clear hcz17_5
    try clear hcz17_6
    try clear hcz17_7
    try clear hcz17_8
    try clear hcz17_9
    try clear hcz19_0
    try clear hcz19_1
    try clear hcz22_0
    try clear hcz22_1
    try clear hcz22_10
    try clear hcz22_11
    try clear hcz22_12
    try clear hcz22_13
    try clear hcz22_2
    try clear hcz22_3
    try clear hcz22_4
    try clear hcz22_5
    try clear hcz22_6
    try clear hcz22_7
    try clear hcz22_8
    try clear hcz22_9
    try clear hcz24_0
    try clear hcz24_1
    try clear hcz24_10
    try clear hcz24_11
    try clear hcz24_12
    try clear hcz24_13
    try clear hcz24_2
    try clear hcz24_3
    try clear hcz24_4
    try clear hcz24_5
    try clear hcz24_6
    try clear hcz24_7
    try clear hcz24_8
    try clear hcz24_9
    try clear hcz26_0
    try clear hcz26_1
    try clear hcz29_0
    try clear hcz29_1
    try clear hcz29_10
    try clear hcz29_11
    try clear hcz29_12
    try clear hcz29_13
    try clear hcz29_2
    try clear hcz29_3
    try clear hcz29_4
    try clear hcz29_5
    try clear hcz29_6
    try clear hcz29_7
    try clear hcz29_8
    try clear hcz29_9
    try clear hfz15_0
    try clear hfz15_1
    try clear hfz15_10
    try clear hfz15_11
    try clear hfz15_12
    try clear hfz15_13
    try clear hfz15_2
    try clear hfz15_3
    try clear hfz15_4
    try clear hfz15_5
    try clear hfz15_6
    try clear hfz15_7
    try clear hfz15_8
    try clear hfz15_9
    try clear hfz17_0
    try clear hfz17_1
    try clear hfz17_10
    try clear hfz17_11
    try clear hfz17_12
    try clear hfz17_13
    try clear hfz17_2
    try clear hfz17_3
    try clear hfz17_4
    try clear hfz17_5
    try clear hfz17_6
    try clear hfz17_7
    try clear hfz17_8
    try clear hfz17_9
    try clear hfz19_0
    try clear hfz19_1
    try clear hfz22_0
    try clear hfz22_1
    try clear hfz22_10
    try clear hfz22_11
    try clear hfz22_12
    try clear hfz22_13
    try clear hfz22_2
    try clear hfz22_3
    try clear hfz22_4
    try clear hfz22_5
    try clear hfz22_6
    try clear hfz22_7
    try clear hfz22_8
    try clear hfz22_9
    try clear hfz24_0
    try clear hfz24_1
    try clear hfz24_10
    try clear hfz24_11
    try clear hfz24_12
    try clear hfz24_13
    try clear hfz24_2
    try clear hfz24_3
    try clear hfz24_4
    try clear hfz24_5
    try clear hfz24_6
    try clear hfz24_7
    try clear hfz24_8
    try clear hfz24_9
    try clear hfz26_0
    try clear hfz26_1
    try clear hfz29_0
    try clear hfz29_1
    try clear hfz29_10
    try clear hfz29_11
    try clear hfz29_12
    try clear hfz29_13
    try clear hfz29_2
    try clear hfz29_3
    try clear hfz29_4
    try clear hfz29_5
    try clear hfz29_6
    try clear hfz29_7
    try clear hfz29_8
    try clear hfz29_9
    obtain ⟨kq, x31_4, rfl, HA, HJ4, HO_9, BK118, BK119, BK120, HB⟩ := hcut
    cases kq with
    | zero => exact absurd HA.out (by simp [pglog_Append.j0])
    | succ kj4 =>
      have H := HA.out
      clear HA
      simp only [pglog_Append.j0] at H
      by_cases c31 : x31_4 = true
      · subst c31
        have H1 : (some (t121, a1_0, a1_1, false)) = some (r1, r2, r3, r4) := by rw [if_pos rfl] at H; exact H
        clear H
        have H := H1
        clear H1
        simp only [Option.some.injEq, Prod.mk.injEq] at H
        obtain ⟨rfl, rfl, rfl, rfl⟩ := H
        try go_wp2
        have n0_ := Aside0.mk (Kd.Q_drew HO_9.out)
        have n1_ := Aside0.mk (blk_drew BK118.out)
        have n2_ := Aside0.mk (blk_drew BK119.out)
        have n3_ := Aside0.mk (blk_drew BK120.out)
        have n4_ := Aside0.mk (below_drew1 HB.out)
        clear HO_9
        clear BK118
        clear BK119
        clear BK120
        clear HB
        have HO_9 := n0_
        have BK118 := n1_
        have BK119 := n2_
        have BK120 := n3_
        have HB := n4_
        clear n0_ n1_ n2_ n3_ n4_
        refine start_ (n := 5) (S := fun w' => w'.cell? ⟨gb118, 0, none⟩ = some (.int .i64 a1_0) ∧ w'.cell? ⟨gb118, 1, none⟩ = some (.int .i64 a1_1)) (ds := []) #[false, false, false, false, false] (by kernel_rfl) rfl rfl ⟨(blk_cell BK118.out 0).trans rfl, (blk_cell BK118.out 1).trans rfl⟩ (fun hHeld => ?_)
        generalize wc.drew = w32 at HO_9 BK118 BK119 BK120 HB hHeld ⊢
        refine pure_ (i := 0) (N := some 32) (v := ?_) (a' := ?_) #[true, false, false, false, false] rfl rfl (by kernel_rfl) (fun _ _ _ h => h) (Or.inl ⟨by rfl, ?_⟩) ?_ ?_
        rotate_left
        · intro w'
          go_simp
          with_reducible rfl
        rotate_left
        · simp only [Act.put, List.setIfInBounds_toArray, List.set_cons_zero, List.set_cons_succ, i64_w, i32_w]
          rfl
        refine pure_ (i := 2) (N := some 6) (v := ?_) (a' := ?_) #[true, false, true, false, false] rfl rfl (by kernel_rfl) (fun _ _ _ h => h) (Or.inl ⟨by rfl, ?_⟩) ?_ ?_
        rotate_left
        · intro w'
          go_simp
          with_reducible rfl
        rotate_left
        · simp only [Act.put, List.setIfInBounds_toArray, List.set_cons_zero, List.set_cons_succ, i64_w, i32_w]
          rfl
        refine take_ (i := 1) (N := some 33) (v := ?_) (a' := ?_) #[true, true, true, false, false] rfl rfl (by kernel_rfl) (fun _ _ _ h => h) (Or.inl ⟨by rfl, ?_⟩) hHeld ?_ ?_
        rotate_left
        · rintro w' ⟨s0, s1⟩
          go_simp
          with_reducible rfl
        rotate_left
        · simp only [Act.put, List.setIfInBounds_toArray, List.set_cons_zero, List.set_cons_succ, i64_w, i32_w]
          rfl
        refine one_ (i := 3) (N := none) #[true, true, true, true, false] rfl rfl (by kernel_rfl) (by decide) (fun K hK => ?_)
        have hs33 : w32.cell? ⟨gb120, 0, none⟩ = some (.int .i64 0) := (blk_cell BK120.out 0).trans rfl
        have hfs33 := blk_frozen BK120.out 0
        have hns33_0 := NB118_120.out
        have hns33_1 := NB119_120.out
        have hms33_0 := NB120_118.out
        have hms33_1 := NB120_119.out
        have hs34 : w32.cell? ⟨gb120, 1, none⟩ = some (.int .i64 0) := (blk_cell BK120.out 1).trans rfl
        have hfs34 := blk_frozen BK120.out 1
        have hns34_0 := NB118_120.out
        have hns34_1 := NB119_120.out
        have hms34_0 := NB120_118.out
        have hms34_1 := NB120_119.out
        refine skip_ (w1 := ?_) (by rfl) rfl ?_ ?_
        rotate_left
        · go_simp
          rfl
        refine hK.out _ _ ⟨((cell_far (p := ⟨gb120, _, none⟩) NB118_120.out _).trans (((cell_far (p := ⟨gb120, _, none⟩) NB118_120.out _).trans (hHeld.1)))), ((cell_far (p := ⟨gb120, _, none⟩) NB118_120.out _).trans (((cell_far (p := ⟨gb120, _, none⟩) NB118_120.out _).trans (hHeld.2))))⟩ (fun hHeld => ?_)
        clear hK K
        refine pure_ (i := 4) (N := some 8) (v := ?_) (a' := ?_) #[true, true, true, true, true] rfl rfl (by kernel_rfl) (fun _ _ _ h => h) (Or.inl ⟨by rfl, ?_⟩) ?_ ?_
        rotate_left
        · intro w'
          go_simp
          with_reducible rfl
        rotate_left
        · simp only [Act.put, List.setIfInBounds_toArray, List.set_cons_zero, List.set_cons_succ, i64_w, i32_w]
          rfl
        refine done_ (by kernel_rfl) ?_
        try go_wp2
        refine bodyPost_ret (results_list (rs := [.tmp 6, .cell 7 24, .tmp 8]) rfl (by simp) (.tmp (.cell gb120 24 #[.int .i64 a1_0, .int .i64 a1_1] (0, 0) _ rfl (by (with_reducible repeat (first | refine blk_drewN ?_ _ | refine blk_drew ?_ | refine blk_alloc ?_ _)); refine blk_put (cs := #[.int .i64 a1_0, .int .i64 0]) ?_ 1 _ rfl; (with_reducible repeat (first | refine blk_drewN ?_ _ | refine blk_drew ?_ | refine blk_alloc ?_ _)); refine blk_put (cs := #[.int .i64 0, .int .i64 0]) ?_ 0 _ rfl; (with_reducible repeat (first | refine blk_drewN ?_ _ | refine blk_drew ?_ | refine blk_alloc ?_ _)); exact BK120.out) Try.underlying24 rfl (by kernel_rfl) (.tmp .nil)))) rfl ?_
        exact ⟨_, by first | rfl | (simp [errW_none, errW_some] <;> rfl) | (simp [*, errW_none, errW_some] <;> rfl), by (with_reducible repeat (first | apply Kd.Q_alloc | apply Kd.Q_drewN | apply Kd.Q_drew)); exact Kd.Q_mono (Kd.Q_far (p := ⟨gb120, 1, none⟩) (Kd.Q_far (p := ⟨gb120, 0, none⟩) (Kd.Q_types HO_9.out BK120.out (by decide)) (fun _ hk => hk.2) (.int .i64 a1_0)) (fun _ hk => hk.2) (.int .i64 a1_1)) (fun _ hk => trivial), by repeat (first | (with_reducible first | exact HB.out | apply below_alloc | apply pw_below_drewN | apply below_drew1 | refine below_set ?_ GE118.out | refine below_set ?_ GE119.out | refine below_set ?_ GE120.out) | exact HB.out)⟩
      · replace c31 := Bool.eq_false_iff.mpr c31
        subst c31
        have H1 : (if t121.length < 1034834473200 then ((some (t121 ++ [(⟨(⟨a2_0, a2_1⟩ : S24), (⟨a2_2, a2_3, a2_4, (⟨a2_5, a2_6, a2_7, a2_8, a2_9⟩ : S27)⟩ : S29), (⟨a2_10, a2_11, a2_12, a2_13⟩ : S32)⟩ : S34)] : List (S34))).bind fun y125 => (if (y125.length : Int) > 8 then (if 1 ≤ (y125.length : Int) then (some ((y125.drop (1 : Int).toNat), a2_0, a2_1, true)) else (none)) else (some (y125, a2_0, a2_1, true)))) else (none)) = some (r1, r2, r3, r4) := by rw [if_neg (show ¬ (false = true) by decide)] at H; exact H
        clear H
        have H := H1
        clear H1
        by_cases c35 : t121.length < 1034834473200
        · rw [if_pos c35] at H
          have LMc35 := Aside0.mk c35
          clear c35
          obtain ⟨y125, hy125⟩ : ∃ y_ : List (S34), y_ = (t121 ++ [(⟨(⟨a2_0, a2_1⟩ : S24), (⟨a2_2, a2_3, a2_4, (⟨a2_5, a2_6, a2_7, a2_8, a2_9⟩ : S27)⟩ : S29), (⟨a2_10, a2_11, a2_12, a2_13⟩ : S32)⟩ : S34)]) := ⟨_, rfl⟩
          replace H : (if (y125.length : Int) > 8 then (if 1 ≤ (y125.length : Int) then (some ((y125.drop (1 : Int).toNat), a2_0, a2_1, true)) else (none)) else (some (y125, a2_0, a2_1, true))) = some (r1, r2, r3, r4) := by first | (rw [hy125]; with_reducible exact H) | (have H2_ := (Option.bind_some _ _).symm.trans H; rw [hy125]; with_reducible exact H2_) | (have H2_ := (Option.bind_some _ _).symm.trans H; with_reducible exact H2_) | with_reducible exact H | (rw [hy125]; exact H) | exact H
          have Ny125 := Aside0.mk hy125
          clear hy125
          by_cases c36 : (y125.length : Int) > 8
          · rw [if_pos c36] at H
            have c36b0 : decide (8 < (y125.length : Int)) = true := decide_eq_true c36
            have c36b1 : decide (8 < y125.length) = true := decide_eq_true (by omega)
            clear c36
            by_cases c37 : 1 ≤ (y125.length : Int)
            · rw [if_pos c37] at H
              have c37b0 := eq_true c37
              have c37b1 : decide (1 ≤ (y125.length : Int)) = true := decide_eq_true c37
              clear c37
              obtain ⟨y128, hy128⟩ : ∃ y_ : List (S34), y_ = (y125.drop (1 : Int).toNat) := ⟨_, rfl⟩
              replace H : (some (y128, a2_0, a2_1, true)) = some (r1, r2, r3, r4) := by first | (rw [hy128]; with_reducible exact H) | (have H2_ := (Option.bind_some _ _).symm.trans H; rw [hy128]; with_reducible exact H2_) | (have H2_ := (Option.bind_some _ _).symm.trans H; with_reducible exact H2_) | with_reducible exact H | (rw [hy128]; exact H) | exact H
              have Ny128 := Aside0.mk hy128
              clear hy128
              simp only [Option.some.injEq, Prod.mk.injEq] at H
              obtain ⟨rfl, rfl, rfl, rfl⟩ := H
              have hnb38 := NB119_118.out
              have hnc38 := NB118_119.out
              have hnb39 := NB119_120.out
              have hnc39 := NB120_119.out
              have hcz40_0 : wc.cell? ⟨gb119, 0, none⟩ = some (.int .i64 a2_0) := (blk_cell BK119.out 0).trans rfl
              have hcz40_1 : wc.cell? ⟨gb119, 1, none⟩ = some (.int .i64 a2_1) := (blk_cell BK119.out 1).trans rfl
              have hcz40_2 : wc.cell? ⟨gb119, 2, none⟩ = some (.int .i64 a2_2) := (blk_cell BK119.out 2).trans rfl
              have hcz40_3 : wc.cell? ⟨gb119, 3, none⟩ = some (.int .i64 a2_3) := (blk_cell BK119.out 3).trans rfl
              have hcz40_4 : wc.cell? ⟨gb119, 4, none⟩ = some (.int .i64 a2_4) := (blk_cell BK119.out 4).trans rfl
              have hcz40_5 : wc.cell? ⟨gb119, 5, none⟩ = some (.int .i64 a2_5) := (blk_cell BK119.out 5).trans rfl
              have hcz40_6 : wc.cell? ⟨gb119, 6, none⟩ = some (.string a2_6) := (blk_cell BK119.out 6).trans rfl
              have hcz40_7 : wc.cell? ⟨gb119, 7, none⟩ = some (.int .i64 a2_7) := (blk_cell BK119.out 7).trans rfl
              have hcz40_8 : wc.cell? ⟨gb119, 8, none⟩ = some (.int .i64 a2_8) := (blk_cell BK119.out 8).trans rfl
              have hcz40_9 : wc.cell? ⟨gb119, 9, none⟩ = some (.string a2_9) := (blk_cell BK119.out 9).trans rfl
              have hcz40_10 : wc.cell? ⟨gb119, 10, none⟩ = some (.int .i64 a2_10) := (blk_cell BK119.out 10).trans rfl
              have hcz40_11 : wc.cell? ⟨gb119, 11, none⟩ = some (.int .i64 a2_11) := (blk_cell BK119.out 11).trans rfl
              have hcz40_12 : wc.cell? ⟨gb119, 12, none⟩ = some (.int .i64 a2_12) := (blk_cell BK119.out 12).trans rfl
              have hcz40_13 : wc.cell? ⟨gb119, 13, none⟩ = some (.string a2_13) := (blk_cell BK119.out 13).trans rfl
              have hfz40_0 := blk_frozen BK119.out 0
              have hfz40_1 := blk_frozen BK119.out 1
              have hfz40_2 := blk_frozen BK119.out 2
              have hfz40_3 := blk_frozen BK119.out 3
              have hfz40_4 := blk_frozen BK119.out 4
              have hfz40_5 := blk_frozen BK119.out 5
              have hfz40_6 := blk_frozen BK119.out 6
              have hfz40_7 := blk_frozen BK119.out 7
              have hfz40_8 := blk_frozen BK119.out 8
              have hfz40_9 := blk_frozen BK119.out 9
              have hfz40_10 := blk_frozen BK119.out 10
              have hfz40_11 := blk_frozen BK119.out 11
              have hfz40_12 := blk_frozen BK119.out 12
              have hfz40_13 := blk_frozen BK119.out 13
              try go_wp2_with (first | ((with_reducible refine gate_builtin (b := .append) (xs := #[.tmp 34, .tmp 36]) rfl ?_); at_builtin; refine Kd.Q_append k34 (w0 := w) w.heap.size rfl (.tmp 34) (.tmp 36) 22 34 (.agg #[(.int .i64 0), (.int .i64 0), (.int .i64 0), (.int .i64 0), (.int .i64 0), (.int .i64 0), (.string ⟨#[]⟩), (.int .i64 0), (.int .i64 0), (.string ⟨#[]⟩), (.int .i64 0), (.int .i64 0), (.int .i64 0), (.string ⟨#[]⟩)]) 136 rfl Try.underlying22 info34 rfl (by decide) (by omega) v122 t121 (⟨(⟨a2_0, a2_1⟩ : S24), (⟨a2_2, a2_3, a2_4, (⟨a2_5, a2_6, a2_7, a2_8, a2_9⟩ : S27)⟩ : S29), (⟨a2_10, a2_11, a2_12, a2_13⟩ : S32)⟩ : S34) [.int .i64 a2_0, .int .i64 a2_1, .int .i64 a2_2, .int .i64 a2_3, .int .i64 a2_4, .int .i64 a2_5, .string a2_6, .int .i64 a2_7, .int .i64 a2_8, .string a2_9, .int .i64 a2_10, .int .i64 a2_11, .int .i64 a2_12, .string a2_13] (fun k_ => k_ ≠ gb119) (fun _ => False) rfl rfl ?aP (fun _ hk => hk.elim) ?aF ?aO ?aB ?aS ?aL ?_; (case aP => exact k34_mkM _ _ _ (⟨(⟨a2_0, a2_1⟩ : S24), (⟨a2_2, a2_3, a2_4, (⟨a2_5, a2_6, a2_7, a2_8, a2_9⟩ : S27)⟩ : S29), (⟨a2_10, a2_11, a2_12, a2_13⟩ : S32)⟩ : S34)); (case aB => exact (by repeat (first | (with_reducible first | exact HB.out | apply below_alloc | apply pw_below_drewN | apply below_drew1 | refine below_set ?_ GE118.out | refine below_set ?_ GE119.out | refine below_set ?_ GE120.out) | exact HB.out))); (case aF => exact (fun k_ hk => Kd.freshB (g := gb119) (o := .cells #[.int .i64 a2_0, .int .i64 a2_1, .int .i64 a2_2, .int .i64 a2_3, .int .i64 a2_4, .int .i64 a2_5, .string a2_6, .int .i64 a2_7, .int .i64 a2_8, .string a2_9, .int .i64 a2_10, .int .i64 a2_11, .int .i64 a2_12, .string a2_13] 34 (0, 0)) (by (with_reducible repeat (first | refine blk_drewN ?_ _ | refine blk_drew ?_ | refine blk_alloc ?_ _)); exact BK119.out) k_ hk)); (case aO => exact (by (with_reducible repeat (first | apply Kd.Q_alloc | apply Kd.Q_drewN | apply Kd.Q_drew)); exact HO_9.out)); (case aS => exact (below_size (by repeat (first | (with_reducible first | exact HB.out | apply below_alloc | apply pw_below_drewN | apply below_drew1 | refine below_set ?_ GE118.out | refine below_set ?_ GE119.out | refine below_set ?_ GE120.out) | exact HB.out)))); (case aL => have := LMc35.out; omega); intro v126 w41 ho hb hg hat; rw [← Ny125.out] at ho; have n0_ := Aside0.mk (blk_grown (g := gb118) (o := .cells #[.int .i64 a1_0, .int .i64 a1_1] 24 (0, 0)) (by (with_reducible repeat (first | refine blk_drewN ?_ _ | refine blk_drew ?_ | refine blk_alloc ?_ _)); exact BK118.out) hg (Kd.Q_ne HO_9.out BK118.out (by decide))); have n1_ := Aside0.mk (blk_grown (g := gb119) (o := .cells #[.int .i64 a2_0, .int .i64 a2_1, .int .i64 a2_2, .int .i64 a2_3, .int .i64 a2_4, .int .i64 a2_5, .string a2_6, .int .i64 a2_7, .int .i64 a2_8, .string a2_9, .int .i64 a2_10, .int .i64 a2_11, .int .i64 a2_12, .string a2_13] 34 (0, 0)) (by (with_reducible repeat (first | refine blk_drewN ?_ _ | refine blk_drew ?_ | refine blk_alloc ?_ _)); exact BK119.out) hg (Kd.Q_away HO_9.out (fun _ hk => hk))); have n2_ := Aside0.mk (blk_grown (g := gb120) (o := .cells #[.int .i64 0, .int .i64 0] 24 (0, 0)) (by (with_reducible repeat (first | refine blk_drewN ?_ _ | refine blk_drew ?_ | refine blk_alloc ?_ _)); exact BK120.out) hg (Kd.Q_ne HO_9.out BK120.out (by decide))); have n3_ := Aside0.mk (hb); have n4_ := Aside0.mk (ho); clear BK118; clear BK119; clear BK120; clear HB; clear HO_9; have BK118 := n0_; have BK119 := n1_; have BK120 := n2_; have HB := n3_; have HO127 := n4_; clear n0_ n1_ n2_ n3_ n4_; clear ho hb hg hat; obtain ⟨Ao42, co42, eo42, _⟩ := Kd.Q_slice HO127.out; subst eo42; have q43 : (1 : Int) ≤ ((y125.length : Int) : Int) := of_decide_eq_true (by first | (with_reducible assumption) | assumption); obtain ⟨i043, hi043, _, hsz43, _⟩ := info_parts info34; have hcut43 := cut_from (P := Try.prog) 22 34 .i64 Try.underlying22 hi043 14 hsz43 Ao42 y125.length co42 1 (by omega) q43; have hr43 := Kd.Q_drop (k := (1 : Int).toNat) HO127.out (by omega); obtain ⟨A43, hA43⟩ : ∃ A1, A1 = (if co42 = (1 : Int).toNat then Ao42 else (Ao42 : Option Addr).map (·.add ((1 : Int).toNat * 14))) := ⟨_, rfl⟩; obtain ⟨c43, hc43⟩ : ∃ c1, c1 = co42 - (1 : Int).toNat := ⟨_, rfl⟩; have hy43 : y128.length = y125.length - (1 : Int).toNat := (by rw [Ny128.out, List.length_drop]); rw [← Ny128.out] at hr43; rw [← hy43, ← hA43, ← hc43] at hcut43; replace hr43 : Kd.Q k34 34 w41 w.heap.size (fun k_ => k_ ≠ gb119) (.slice A43 y128.length c43) y128 := (by rw [hA43, hc43, hy43]; exact hr43); have HE43 : Aside0 ((Value.slice A43 y128.length c43).ownBlock = (.slice Ao42 y125.length co42 : Value).ownBlock) := ⟨by rw [hA43]; split <;> (cases (Ao42 : Option Addr) <;> rfl)⟩; clear hy43 hi043 hsz43 HO127 hA43 hc43; have HO130 := Aside0.mk hr43; clear hr43; replace q43 := eq_true q43))
              have n0_ := Aside0.mk (Kd.Q_drew HO130.out)
              have n1_ := Aside0.mk (blk_drew BK118.out)
              have n2_ := Aside0.mk (blk_drew BK119.out)
              have n3_ := Aside0.mk (blk_drew BK120.out)
              have n4_ := Aside0.mk (below_drew1 HB.out)
              clear HO130
              clear BK118
              clear BK119
              clear BK120
              clear HB
              have HO130 := n0_
              have BK118 := n1_
              have BK119 := n2_
              have BK120 := n3_
              have HB := n4_
              clear n0_ n1_ n2_ n3_ n4_
              refine start_ (n := 6) (S := fun w' => w'.cell? ⟨gb119, 0, none⟩ = some (.int .i64 a2_0) ∧ w'.cell? ⟨gb119, 1, none⟩ = some (.int .i64 a2_1) ∧ w'.cell? ⟨gb119, 2, none⟩ = some (.int .i64 a2_2) ∧ w'.cell? ⟨gb119, 3, none⟩ = some (.int .i64 a2_3) ∧ w'.cell? ⟨gb119, 4, none⟩ = some (.int .i64 a2_4) ∧ w'.cell? ⟨gb119, 5, none⟩ = some (.int .i64 a2_5) ∧ w'.cell? ⟨gb119, 6, none⟩ = some (.string a2_6) ∧ w'.cell? ⟨gb119, 7, none⟩ = some (.int .i64 a2_7) ∧ w'.cell? ⟨gb119, 8, none⟩ = some (.int .i64 a2_8) ∧ w'.cell? ⟨gb119, 9, none⟩ = some (.string a2_9) ∧ w'.cell? ⟨gb119, 10, none⟩ = some (.int .i64 a2_10) ∧ w'.cell? ⟨gb119, 11, none⟩ = some (.int .i64 a2_11) ∧ w'.cell? ⟨gb119, 12, none⟩ = some (.int .i64 a2_12) ∧ w'.cell? ⟨gb119, 13, none⟩ = some (.string a2_13)) (ds := []) #[false, false, false, false, false, false] (by kernel_rfl) rfl rfl ⟨(blk_cell BK119.out 0).trans rfl, (blk_cell BK119.out 1).trans rfl, (blk_cell BK119.out 2).trans rfl, (blk_cell BK119.out 3).trans rfl, (blk_cell BK119.out 4).trans rfl, (blk_cell BK119.out 5).trans rfl, (blk_cell BK119.out 6).trans rfl, (blk_cell BK119.out 7).trans rfl, (blk_cell BK119.out 8).trans rfl, (blk_cell BK119.out 9).trans rfl, (blk_cell BK119.out 10).trans rfl, (blk_cell BK119.out 11).trans rfl, (blk_cell BK119.out 12).trans rfl, (blk_cell BK119.out 13).trans rfl⟩ (fun hHeld => ?_)
              generalize w41.drew = w44 at HO130 BK118 BK119 BK120 HB hHeld ⊢
              refine pure_ (i := 0) (N := some 43) (v := ?_) (a' := ?_) #[true, false, false, false, false, false] rfl rfl (by kernel_rfl) (fun _ _ _ h => h) (Or.inl ⟨by rfl, ?_⟩) ?_ ?_
              rotate_left
              · intro w'
                go_simp
                with_reducible rfl
              rotate_left
              · simp only [Act.put, List.setIfInBounds_toArray, List.set_cons_zero, List.set_cons_succ, i64_w, i32_w]
                rfl
              refine pure_ (i := 1) (N := some 44) (v := ?_) (a' := ?_) #[true, true, false, false, false, false] rfl rfl (by kernel_rfl) (fun _ _ _ h => h) (Or.inl ⟨by rfl, ?_⟩) ?_ ?_
              rotate_left
              · intro w'
                go_simp
                with_reducible rfl
              rotate_left
              · simp only [Act.put, List.setIfInBounds_toArray, List.set_cons_zero, List.set_cons_succ, i64_w, i32_w]
                rfl
              refine pure_ (i := 3) (N := some 6) (v := ?_) (a' := ?_) #[true, true, false, true, false, false] rfl rfl (by kernel_rfl) (fun _ _ _ h => h) (Or.inl ⟨by rfl, ?_⟩) ?_ ?_
              rotate_left
              · intro w'
                go_simp
                with_reducible rfl
              rotate_left
              · simp only [Act.put, List.setIfInBounds_toArray, List.set_cons_zero, List.set_cons_succ, i64_w, i32_w]
                rfl
              refine take_ (i := 2) (N := some 45) (v := ?_) (a' := ?_) #[true, true, true, true, false, false] rfl rfl (by kernel_rfl) (fun _ _ _ h => h) (Or.inl ⟨by rfl, ?_⟩) hHeld ?_ ?_
              rotate_left
              · rintro w' ⟨s0, s1, s2, s3, s4, s5, s6, s7, s8, s9, s10, s11, s12, s13⟩
                go_simp
                with_reducible rfl
              rotate_left
              · simp only [Act.put, List.setIfInBounds_toArray, List.set_cons_zero, List.set_cons_succ, i64_w, i32_w]
                rfl
              refine one_ (i := 4) (N := none) #[true, true, true, true, true, false] rfl rfl (by kernel_rfl) (by decide) (fun K hK => ?_)
              have hs45 : w44.cell? ⟨gb120, 0, none⟩ = some (.int .i64 0) := (blk_cell BK120.out 0).trans rfl
              have hfs45 := blk_frozen BK120.out 0
              have hns45_0 := NB118_120.out
              have hns45_1 := NB119_120.out
              have hms45_0 := NB120_118.out
              have hms45_1 := NB120_119.out
              have hs46 : w44.cell? ⟨gb120, 1, none⟩ = some (.int .i64 0) := (blk_cell BK120.out 1).trans rfl
              have hfs46 := blk_frozen BK120.out 1
              have hns46_0 := NB118_120.out
              have hns46_1 := NB119_120.out
              have hms46_0 := NB120_118.out
              have hms46_1 := NB120_119.out
              refine skip_ (w1 := ?_) (by rfl) rfl ?_ ?_
              rotate_left
              · go_simp
                rfl
              refine hK.out _ _ ⟨((cell_far (p := ⟨gb120, _, none⟩) NB119_120.out _).trans (((cell_far (p := ⟨gb120, _, none⟩) NB119_120.out _).trans (hHeld.1)))), ((cell_far (p := ⟨gb120, _, none⟩) NB119_120.out _).trans (((cell_far (p := ⟨gb120, _, none⟩) NB119_120.out _).trans (hHeld.2.1)))), ((cell_far (p := ⟨gb120, _, none⟩) NB119_120.out _).trans (((cell_far (p := ⟨gb120, _, none⟩) NB119_120.out _).trans (hHeld.2.2.1)))), ((cell_far (p := ⟨gb120, _, none⟩) NB119_120.out _).trans (((cell_far (p := ⟨gb120, _, none⟩) NB119_120.out _).trans (hHeld.2.2.2.1)))), ((cell_far (p := ⟨gb120, _, none⟩) NB119_120.out _).trans (((cell_far (p := ⟨gb120, _, none⟩) NB119_120.out _).trans (hHeld.2.2.2.2.1)))), ((cell_far (p := ⟨gb120, _, none⟩) NB119_120.out _).trans (((cell_far (p := ⟨gb120, _, none⟩) NB119_120.out _).trans (hHeld.2.2.2.2.2.1)))), ((cell_far (p := ⟨gb120, _, none⟩) NB119_120.out _).trans (((cell_far (p := ⟨gb120, _, none⟩) NB119_120.out _).trans (hHeld.2.2.2.2.2.2.1)))), ((cell_far (p := ⟨gb120, _, none⟩) NB119_120.out _).trans (((cell_far (p := ⟨gb120, _, none⟩) NB119_120.out _).trans (hHeld.2.2.2.2.2.2.2.1)))), ((cell_far (p := ⟨gb120, _, none⟩) NB119_120.out _).trans (((cell_far (p := ⟨gb120, _, none⟩) NB119_120.out _).trans (hHeld.2.2.2.2.2.2.2.2.1)))), ((cell_far (p := ⟨gb120, _, none⟩) NB119_120.out _).trans (((cell_far (p := ⟨gb120, _, none⟩) NB119_120.out _).trans (hHeld.2.2.2.2.2.2.2.2.2.1)))), ((cell_far (p := ⟨gb120, _, none⟩) NB119_120.out _).trans (((cell_far (p := ⟨gb120, _, none⟩) NB119_120.out _).trans (hHeld.2.2.2.2.2.2.2.2.2.2.1)))), ((cell_far (p := ⟨gb120, _, none⟩) NB119_120.out _).trans (((cell_far (p := ⟨gb120, _, none⟩) NB119_120.out _).trans (hHeld.2.2.2.2.2.2.2.2.2.2.2.1)))), ((cell_far (p := ⟨gb120, _, none⟩) NB119_120.out _).trans (((cell_far (p := ⟨gb120, _, none⟩) NB119_120.out _).trans (hHeld.2.2.2.2.2.2.2.2.2.2.2.2.1)))), ((cell_far (p := ⟨gb120, _, none⟩) NB119_120.out _).trans (((cell_far (p := ⟨gb120, _, none⟩) NB119_120.out _).trans (hHeld.2.2.2.2.2.2.2.2.2.2.2.2.2))))⟩ (fun hHeld => ?_)
              clear hK K
              refine pure_ (i := 5) (N := some 8) (v := ?_) (a' := ?_) #[true, true, true, true, true, true] rfl rfl (by kernel_rfl) (fun _ _ _ h => h) (Or.inl ⟨by rfl, ?_⟩) ?_ ?_
              rotate_left
              · intro w'
                go_simp
                with_reducible rfl
              rotate_left
              · simp only [Act.put, List.setIfInBounds_toArray, List.set_cons_zero, List.set_cons_succ, i64_w, i32_w]
                rfl
              refine done_ (by kernel_rfl) ?_
              try go_wp2
              refine bodyPost_ret (results_list (rs := [.tmp 6, .cell 7 24, .tmp 8]) rfl (by simp) (.tmp (.cell gb120 24 #[.int .i64 a2_0, .int .i64 a2_1] (0, 0) _ rfl (by (with_reducible repeat (first | refine blk_drewN ?_ _ | refine blk_drew ?_ | refine blk_alloc ?_ _)); refine blk_put (cs := #[.int .i64 a2_0, .int .i64 0]) ?_ 1 _ rfl; (with_reducible repeat (first | refine blk_drewN ?_ _ | refine blk_drew ?_ | refine blk_alloc ?_ _)); refine blk_put (cs := #[.int .i64 0, .int .i64 0]) ?_ 0 _ rfl; (with_reducible repeat (first | refine blk_drewN ?_ _ | refine blk_drew ?_ | refine blk_alloc ?_ _)); exact BK120.out) Try.underlying24 rfl (by kernel_rfl) (.tmp .nil)))) rfl ?_
              exact ⟨_, by first | rfl | (simp [errW_none, errW_some] <;> rfl) | (simp [*, errW_none, errW_some] <;> rfl), by (with_reducible repeat (first | apply Kd.Q_alloc | apply Kd.Q_drewN | apply Kd.Q_drew)); exact Kd.Q_mono (Kd.Q_far (p := ⟨gb120, 1, none⟩) (Kd.Q_far (p := ⟨gb120, 0, none⟩) (Kd.Q_types HO130.out BK120.out (by decide)) (fun _ hk => hk.2) (.int .i64 a2_0)) (fun _ hk => hk.2) (.int .i64 a2_1)) (fun _ hk => trivial), by repeat (first | (with_reducible first | exact HB.out | apply below_alloc | apply pw_below_drewN | apply below_drew1 | refine below_set ?_ GE118.out | refine below_set ?_ GE119.out | refine below_set ?_ GE120.out) | exact HB.out)⟩
            · rw [if_neg c37] at H
              exact absurd H (by simp)
          · rw [if_neg c36] at H
            have c36b0 : decide (8 < (y125.length : Int)) = false := decide_eq_false c36
            have c36b1 : decide (8 < y125.length) = false := decide_eq_false (by omega)
            clear c36
            simp only [Option.some.injEq, Prod.mk.injEq] at H
            obtain ⟨rfl, rfl, rfl, rfl⟩ := H
            have hnb47 := NB119_118.out
            have hnc47 := NB118_119.out
            have hnb48 := NB119_120.out
            have hnc48 := NB120_119.out
            have hcz49_0 : wc.cell? ⟨gb119, 0, none⟩ = some (.int .i64 a2_0) := (blk_cell BK119.out 0).trans rfl
            have hcz49_1 : wc.cell? ⟨gb119, 1, none⟩ = some (.int .i64 a2_1) := (blk_cell BK119.out 1).trans rfl
            have hcz49_2 : wc.cell? ⟨gb119, 2, none⟩ = some (.int .i64 a2_2) := (blk_cell BK119.out 2).trans rfl
            have hcz49_3 : wc.cell? ⟨gb119, 3, none⟩ = some (.int .i64 a2_3) := (blk_cell BK119.out 3).trans rfl
            have hcz49_4 : wc.cell? ⟨gb119, 4, none⟩ = some (.int .i64 a2_4) := (blk_cell BK119.out 4).trans rfl
            have hcz49_5 : wc.cell? ⟨gb119, 5, none⟩ = some (.int .i64 a2_5) := (blk_cell BK119.out 5).trans rfl
            have hcz49_6 : wc.cell? ⟨gb119, 6, none⟩ = some (.string a2_6) := (blk_cell BK119.out 6).trans rfl
            have hcz49_7 : wc.cell? ⟨gb119, 7, none⟩ = some (.int .i64 a2_7) := (blk_cell BK119.out 7).trans rfl
            have hcz49_8 : wc.cell? ⟨gb119, 8, none⟩ = some (.int .i64 a2_8) := (blk_cell BK119.out 8).trans rfl
            have hcz49_9 : wc.cell? ⟨gb119, 9, none⟩ = some (.string a2_9) := (blk_cell BK119.out 9).trans rfl
            have hcz49_10 : wc.cell? ⟨gb119, 10, none⟩ = some (.int .i64 a2_10) := (blk_cell BK119.out 10).trans rfl
            have hcz49_11 : wc.cell? ⟨gb119, 11, none⟩ = some (.int .i64 a2_11) := (blk_cell BK119.out 11).trans rfl
            have hcz49_12 : wc.cell? ⟨gb119, 12, none⟩ = some (.int .i64 a2_12) := (blk_cell BK119.out 12).trans rfl
            have hcz49_13 : wc.cell? ⟨gb119, 13, none⟩ = some (.string a2_13) := (blk_cell BK119.out 13).trans rfl
            have hfz49_0 := blk_frozen BK119.out 0
            have hfz49_1 := blk_frozen BK119.out 1
            have hfz49_2 := blk_frozen BK119.out 2
            have hfz49_3 := blk_frozen BK119.out 3
            have hfz49_4 := blk_frozen BK119.out 4
            have hfz49_5 := blk_frozen BK119.out 5
            have hfz49_6 := blk_frozen BK119.out 6
            have hfz49_7 := blk_frozen BK119.out 7
            have hfz49_8 := blk_frozen BK119.out 8
            have hfz49_9 := blk_frozen BK119.out 9
            have hfz49_10 := blk_frozen BK119.out 10
            have hfz49_11 := blk_frozen BK119.out 11
            have hfz49_12 := blk_frozen BK119.out 12
            have hfz49_13 := blk_frozen BK119.out 13
            try go_wp2_with (first | ((with_reducible refine gate_builtin (b := .append) (xs := #[.tmp 34, .tmp 36]) rfl ?_); at_builtin; refine Kd.Q_append k34 (w0 := w) w.heap.size rfl (.tmp 34) (.tmp 36) 22 34 (.agg #[(.int .i64 0), (.int .i64 0), (.int .i64 0), (.int .i64 0), (.int .i64 0), (.int .i64 0), (.string ⟨#[]⟩), (.int .i64 0), (.int .i64 0), (.string ⟨#[]⟩), (.int .i64 0), (.int .i64 0), (.int .i64 0), (.string ⟨#[]⟩)]) 136 rfl Try.underlying22 info34 rfl (by decide) (by omega) v122 t121 (⟨(⟨a2_0, a2_1⟩ : S24), (⟨a2_2, a2_3, a2_4, (⟨a2_5, a2_6, a2_7, a2_8, a2_9⟩ : S27)⟩ : S29), (⟨a2_10, a2_11, a2_12, a2_13⟩ : S32)⟩ : S34) [.int .i64 a2_0, .int .i64 a2_1, .int .i64 a2_2, .int .i64 a2_3, .int .i64 a2_4, .int .i64 a2_5, .string a2_6, .int .i64 a2_7, .int .i64 a2_8, .string a2_9, .int .i64 a2_10, .int .i64 a2_11, .int .i64 a2_12, .string a2_13] (fun k_ => k_ ≠ gb119) (fun _ => False) rfl rfl ?aP (fun _ hk => hk.elim) ?aF ?aO ?aB ?aS ?aL ?_; (case aP => exact k34_mkM _ _ _ (⟨(⟨a2_0, a2_1⟩ : S24), (⟨a2_2, a2_3, a2_4, (⟨a2_5, a2_6, a2_7, a2_8, a2_9⟩ : S27)⟩ : S29), (⟨a2_10, a2_11, a2_12, a2_13⟩ : S32)⟩ : S34)); (case aB => exact (by repeat (first | (with_reducible first | exact HB.out | apply below_alloc | apply pw_below_drewN | apply below_drew1 | refine below_set ?_ GE118.out | refine below_set ?_ GE119.out | refine below_set ?_ GE120.out) | exact HB.out))); (case aF => exact (fun k_ hk => Kd.freshB (g := gb119) (o := .cells #[.int .i64 a2_0, .int .i64 a2_1, .int .i64 a2_2, .int .i64 a2_3, .int .i64 a2_4, .int .i64 a2_5, .string a2_6, .int .i64 a2_7, .int .i64 a2_8, .string a2_9, .int .i64 a2_10, .int .i64 a2_11, .int .i64 a2_12, .string a2_13] 34 (0, 0)) (by (with_reducible repeat (first | refine blk_drewN ?_ _ | refine blk_drew ?_ | refine blk_alloc ?_ _)); exact BK119.out) k_ hk)); (case aO => exact (by (with_reducible repeat (first | apply Kd.Q_alloc | apply Kd.Q_drewN | apply Kd.Q_drew)); exact HO_9.out)); (case aS => exact (below_size (by repeat (first | (with_reducible first | exact HB.out | apply below_alloc | apply pw_below_drewN | apply below_drew1 | refine below_set ?_ GE118.out | refine below_set ?_ GE119.out | refine below_set ?_ GE120.out) | exact HB.out)))); (case aL => have := LMc35.out; omega); intro v126 w50 ho hb hg hat; rw [← Ny125.out] at ho; have n0_ := Aside0.mk (blk_grown (g := gb118) (o := .cells #[.int .i64 a1_0, .int .i64 a1_1] 24 (0, 0)) (by (with_reducible repeat (first | refine blk_drewN ?_ _ | refine blk_drew ?_ | refine blk_alloc ?_ _)); exact BK118.out) hg (Kd.Q_ne HO_9.out BK118.out (by decide))); have n1_ := Aside0.mk (blk_grown (g := gb119) (o := .cells #[.int .i64 a2_0, .int .i64 a2_1, .int .i64 a2_2, .int .i64 a2_3, .int .i64 a2_4, .int .i64 a2_5, .string a2_6, .int .i64 a2_7, .int .i64 a2_8, .string a2_9, .int .i64 a2_10, .int .i64 a2_11, .int .i64 a2_12, .string a2_13] 34 (0, 0)) (by (with_reducible repeat (first | refine blk_drewN ?_ _ | refine blk_drew ?_ | refine blk_alloc ?_ _)); exact BK119.out) hg (Kd.Q_away HO_9.out (fun _ hk => hk))); have n2_ := Aside0.mk (blk_grown (g := gb120) (o := .cells #[.int .i64 0, .int .i64 0] 24 (0, 0)) (by (with_reducible repeat (first | refine blk_drewN ?_ _ | refine blk_drew ?_ | refine blk_alloc ?_ _)); exact BK120.out) hg (Kd.Q_ne HO_9.out BK120.out (by decide))); have n3_ := Aside0.mk (hb); have n4_ := Aside0.mk (ho); clear BK118; clear BK119; clear BK120; clear HB; clear HO_9; have BK118 := n0_; have BK119 := n1_; have BK120 := n2_; have HB := n3_; have HO127 := n4_; clear n0_ n1_ n2_ n3_ n4_; clear ho hb hg hat; obtain ⟨Ao51, co51, eo51, _⟩ := Kd.Q_slice HO127.out; subst eo51))
            have n0_ := Aside0.mk (Kd.Q_drew HO127.out)
            have n1_ := Aside0.mk (blk_drew BK118.out)
            have n2_ := Aside0.mk (blk_drew BK119.out)
            have n3_ := Aside0.mk (blk_drew BK120.out)
            have n4_ := Aside0.mk (below_drew1 HB.out)
            clear HO127
            clear BK118
            clear BK119
            clear BK120
            clear HB
            have HO127 := n0_
            have BK118 := n1_
            have BK119 := n2_
            have BK120 := n3_
            have HB := n4_
            clear n0_ n1_ n2_ n3_ n4_
            refine start_ (n := 6) (S := fun w' => w'.cell? ⟨gb119, 0, none⟩ = some (.int .i64 a2_0) ∧ w'.cell? ⟨gb119, 1, none⟩ = some (.int .i64 a2_1) ∧ w'.cell? ⟨gb119, 2, none⟩ = some (.int .i64 a2_2) ∧ w'.cell? ⟨gb119, 3, none⟩ = some (.int .i64 a2_3) ∧ w'.cell? ⟨gb119, 4, none⟩ = some (.int .i64 a2_4) ∧ w'.cell? ⟨gb119, 5, none⟩ = some (.int .i64 a2_5) ∧ w'.cell? ⟨gb119, 6, none⟩ = some (.string a2_6) ∧ w'.cell? ⟨gb119, 7, none⟩ = some (.int .i64 a2_7) ∧ w'.cell? ⟨gb119, 8, none⟩ = some (.int .i64 a2_8) ∧ w'.cell? ⟨gb119, 9, none⟩ = some (.string a2_9) ∧ w'.cell? ⟨gb119, 10, none⟩ = some (.int .i64 a2_10) ∧ w'.cell? ⟨gb119, 11, none⟩ = some (.int .i64 a2_11) ∧ w'.cell? ⟨gb119, 12, none⟩ = some (.int .i64 a2_12) ∧ w'.cell? ⟨gb119, 13, none⟩ = some (.string a2_13)) (ds := []) #[false, false, false, false, false, false] (by kernel_rfl) rfl rfl ⟨(blk_cell BK119.out 0).trans rfl, (blk_cell BK119.out 1).trans rfl, (blk_cell BK119.out 2).trans rfl, (blk_cell BK119.out 3).trans rfl, (blk_cell BK119.out 4).trans rfl, (blk_cell BK119.out 5).trans rfl, (blk_cell BK119.out 6).trans rfl, (blk_cell BK119.out 7).trans rfl, (blk_cell BK119.out 8).trans rfl, (blk_cell BK119.out 9).trans rfl, (blk_cell BK119.out 10).trans rfl, (blk_cell BK119.out 11).trans rfl, (blk_cell BK119.out 12).trans rfl, (blk_cell BK119.out 13).trans rfl⟩ (fun hHeld => ?_)
            generalize w50.drew = w52 at HO127 BK118 BK119 BK120 HB hHeld ⊢
            refine pure_ (i := 0) (N := some 43) (v := ?_) (a' := ?_) #[true, false, false, false, false, false] rfl rfl (by kernel_rfl) (fun _ _ _ h => h) (Or.inl ⟨by rfl, ?_⟩) ?_ ?_
            rotate_left
            · intro w'
              go_simp
              with_reducible rfl
            rotate_left
            · simp only [Act.put, List.setIfInBounds_toArray, List.set_cons_zero, List.set_cons_succ, i64_w, i32_w]
              rfl
            refine pure_ (i := 1) (N := some 44) (v := ?_) (a' := ?_) #[true, true, false, false, false, false] rfl rfl (by kernel_rfl) (fun _ _ _ h => h) (Or.inl ⟨by rfl, ?_⟩) ?_ ?_
            rotate_left
            · intro w'
              go_simp
              with_reducible rfl
            rotate_left
            · simp only [Act.put, List.setIfInBounds_toArray, List.set_cons_zero, List.set_cons_succ, i64_w, i32_w]
              rfl
            refine pure_ (i := 3) (N := some 6) (v := ?_) (a' := ?_) #[true, true, false, true, false, false] rfl rfl (by kernel_rfl) (fun _ _ _ h => h) (Or.inl ⟨by rfl, ?_⟩) ?_ ?_
            rotate_left
            · intro w'
              go_simp
              with_reducible rfl
            rotate_left
            · simp only [Act.put, List.setIfInBounds_toArray, List.set_cons_zero, List.set_cons_succ, i64_w, i32_w]
              rfl
            refine take_ (i := 2) (N := some 45) (v := ?_) (a' := ?_) #[true, true, true, true, false, false] rfl rfl (by kernel_rfl) (fun _ _ _ h => h) (Or.inl ⟨by rfl, ?_⟩) hHeld ?_ ?_
            rotate_left
            · rintro w' ⟨s0, s1, s2, s3, s4, s5, s6, s7, s8, s9, s10, s11, s12, s13⟩
              go_simp
              with_reducible rfl
            rotate_left
            · simp only [Act.put, List.setIfInBounds_toArray, List.set_cons_zero, List.set_cons_succ, i64_w, i32_w]
              rfl
            refine one_ (i := 4) (N := none) #[true, true, true, true, true, false] rfl rfl (by kernel_rfl) (by decide) (fun K hK => ?_)
            have hs53 : w52.cell? ⟨gb120, 0, none⟩ = some (.int .i64 0) := (blk_cell BK120.out 0).trans rfl
            have hfs53 := blk_frozen BK120.out 0
            have hns53_0 := NB118_120.out
            have hns53_1 := NB119_120.out
            have hms53_0 := NB120_118.out
            have hms53_1 := NB120_119.out
            have hs54 : w52.cell? ⟨gb120, 1, none⟩ = some (.int .i64 0) := (blk_cell BK120.out 1).trans rfl
            have hfs54 := blk_frozen BK120.out 1
            have hns54_0 := NB118_120.out
            have hns54_1 := NB119_120.out
            have hms54_0 := NB120_118.out
            have hms54_1 := NB120_119.out
            refine skip_ (w1 := ?_) (by rfl) rfl ?_ ?_
            rotate_left
            · go_simp
              rfl
            refine hK.out _ _ ⟨((cell_far (p := ⟨gb120, _, none⟩) NB119_120.out _).trans (((cell_far (p := ⟨gb120, _, none⟩) NB119_120.out _).trans (hHeld.1)))), ((cell_far (p := ⟨gb120, _, none⟩) NB119_120.out _).trans (((cell_far (p := ⟨gb120, _, none⟩) NB119_120.out _).trans (hHeld.2.1)))), ((cell_far (p := ⟨gb120, _, none⟩) NB119_120.out _).trans (((cell_far (p := ⟨gb120, _, none⟩) NB119_120.out _).trans (hHeld.2.2.1)))), ((cell_far (p := ⟨gb120, _, none⟩) NB119_120.out _).trans (((cell_far (p := ⟨gb120, _, none⟩) NB119_120.out _).trans (hHeld.2.2.2.1)))), ((cell_far (p := ⟨gb120, _, none⟩) NB119_120.out _).trans (((cell_far (p := ⟨gb120, _, none⟩) NB119_120.out _).trans (hHeld.2.2.2.2.1)))), ((cell_far (p := ⟨gb120, _, none⟩) NB119_120.out _).trans (((cell_far (p := ⟨gb120, _, none⟩) NB119_120.out _).trans (hHeld.2.2.2.2.2.1)))), ((cell_far (p := ⟨gb120, _, none⟩) NB119_120.out _).trans (((cell_far (p := ⟨gb120, _, none⟩) NB119_120.out _).trans (hHeld.2.2.2.2.2.2.1)))), ((cell_far (p := ⟨gb120, _, none⟩) NB119_120.out _).trans (((cell_far (p := ⟨gb120, _, none⟩) NB119_120.out _).trans (hHeld.2.2.2.2.2.2.2.1)))), ((cell_far (p := ⟨gb120, _, none⟩) NB119_120.out _).trans (((cell_far (p := ⟨gb120, _, none⟩) NB119_120.out _).trans (hHeld.2.2.2.2.2.2.2.2.1)))), ((cell_far (p := ⟨gb120, _, none⟩) NB119_120.out _).trans (((cell_far (p := ⟨gb120, _, none⟩) NB119_120.out _).trans (hHeld.2.2.2.2.2.2.2.2.2.1)))), ((cell_far (p := ⟨gb120, _, none⟩) NB119_120.out _).trans (((cell_far (p := ⟨gb120, _, none⟩) NB119_120.out _).trans (hHeld.2.2.2.2.2.2.2.2.2.2.1)))), ((cell_far (p := ⟨gb120, _, none⟩) NB119_120.out _).trans (((cell_far (p := ⟨gb120, _, none⟩) NB119_120.out _).trans (hHeld.2.2.2.2.2.2.2.2.2.2.2.1)))), ((cell_far (p := ⟨gb120, _, none⟩) NB119_120.out _).trans (((cell_far (p := ⟨gb120, _, none⟩) NB119_120.out _).trans (hHeld.2.2.2.2.2.2.2.2.2.2.2.2.1)))), ((cell_far (p := ⟨gb120, _, none⟩) NB119_120.out _).trans (((cell_far (p := ⟨gb120, _, none⟩) NB119_120.out _).trans (hHeld.2.2.2.2.2.2.2.2.2.2.2.2.2))))⟩ (fun hHeld => ?_)
            clear hK K
            refine pure_ (i := 5) (N := some 8) (v := ?_) (a' := ?_) #[true, true, true, true, true, true] rfl rfl (by kernel_rfl) (fun _ _ _ h => h) (Or.inl ⟨by rfl, ?_⟩) ?_ ?_
            rotate_left
            · intro w'
              go_simp
              with_reducible rfl
            rotate_left
            · simp only [Act.put, List.setIfInBounds_toArray, List.set_cons_zero, List.set_cons_succ, i64_w, i32_w]
              rfl
            refine done_ (by kernel_rfl) ?_
            try go_wp2
            refine bodyPost_ret (results_list (rs := [.tmp 6, .cell 7 24, .tmp 8]) rfl (by simp) (.tmp (.cell gb120 24 #[.int .i64 a2_0, .int .i64 a2_1] (0, 0) _ rfl (by (with_reducible repeat (first | refine blk_drewN ?_ _ | refine blk_drew ?_ | refine blk_alloc ?_ _)); refine blk_put (cs := #[.int .i64 a2_0, .int .i64 0]) ?_ 1 _ rfl; (with_reducible repeat (first | refine blk_drewN ?_ _ | refine blk_drew ?_ | refine blk_alloc ?_ _)); refine blk_put (cs := #[.int .i64 0, .int .i64 0]) ?_ 0 _ rfl; (with_reducible repeat (first | refine blk_drewN ?_ _ | refine blk_drew ?_ | refine blk_alloc ?_ _)); exact BK120.out) Try.underlying24 rfl (by kernel_rfl) (.tmp .nil)))) rfl ?_
            exact ⟨_, by first | rfl | (simp [errW_none, errW_some] <;> rfl) | (simp [*, errW_none, errW_some] <;> rfl), by (with_reducible repeat (first | apply Kd.Q_alloc | apply Kd.Q_drewN | apply Kd.Q_drew)); exact Kd.Q_mono (Kd.Q_far (p := ⟨gb120, 1, none⟩) (Kd.Q_far (p := ⟨gb120, 0, none⟩) (Kd.Q_types HO127.out BK120.out (by decide)) (fun _ hk => hk.2) (.int .i64 a2_0)) (fun _ hk => hk.2) (.int .i64 a2_1)) (fun _ hk => trivial), by repeat (first | (with_reducible first | exact HB.out | apply below_alloc | apply pw_below_drewN | apply below_drew1 | refine below_set ?_ GE118.out | refine below_set ?_ GE119.out | refine below_set ?_ GE120.out) | exact HB.out)⟩
        · rw [if_neg c35] at H
          exact absurd H (by simp)
end Go.Proofs.Ytbdciklcckjknaa.P
