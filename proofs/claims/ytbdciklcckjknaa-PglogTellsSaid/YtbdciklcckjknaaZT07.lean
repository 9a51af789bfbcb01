/- Texts of this claim, merged by pack.py: PReefref19Op -/
import Derived.Deep.RegionWith
import Derived.Test.YtbdciklcckjknaaZT01
import Derived.Test.YtbdciklcckjknaaZT06
namespace Go.Proofs.Ytbdciklcckjknaa.P
open Go.RowKit Go.Proofs.YtbdciklcckjknaaW.PrintWords Go.Proofs.YtbdciklcckjknaaW.PrintLast Go.Proofs.YtbdciklcckjknaaW.PrintMore
attribute [local go_sem] max2_int min2_int max_two min_two
set_option linter.unusedVariables false
set_option linter.unusedSimpArgs false
def upB (x : Int) : Bool := decide (0 ≤ x) && decide (x ≤ 64)
theorem upto_eq (x : Int) : reefref19_upto.f x = some (upB x) := by
  unfold reefref19_upto.f upB
  by_cases h : x ≥ 0
  · rw [if_pos h, decide_eq_true (show 0 ≤ x from h), Bool.true_and]
  · rw [if_neg h, decide_eq_false (show ¬ 0 ≤ x from h), Bool.false_and]
attribute [local go_sem high] eqA27
theorem cells_keep {w w1 : World} {o1 o2 : Obj} (h : Below ((w.alloc o1).alloc o2).heap.size ((w.alloc o1).alloc o2) w1) :
    (∀ k, w1.cell? ⟨w.heap.size, k, none⟩ = ((w.alloc o1).alloc o2).cell? ⟨w.heap.size, k, none⟩) ∧ (∀ k, w1.cell? ⟨w.heap.size + 1, k, none⟩ = ((w.alloc o1).alloc o2).cell? ⟨w.heap.size + 1, k, none⟩) ∧ w.heap.size + 1 < w1.heap.size := by
  have hs := h.size
  rw [World.size_alloc, World.size_alloc] at hs
  refine ⟨fun k => h.cell (p := ⟨w.heap.size, k, none⟩) ?_, fun k => h.cell (p := ⟨w.heap.size + 1, k, none⟩) ?_, by omega⟩
  · show w.heap.size < _
    rw [World.size_alloc, World.size_alloc]
    exact Nat.lt_of_lt_of_le (Nat.lt_succ_self _) (Nat.le_succ _)
  · show w.heap.size + 1 < _
    rw [World.size_alloc, World.size_alloc]
    exact Nat.lt_succ_self _
theorem cells_keep2 {w w1 w2 : World} (z : w.heap.size + 1 < w1.heap.size) (h : Below w1.heap.size w1 w2) :
    (∀ k, w2.cell? ⟨w.heap.size, k, none⟩ = w1.cell? ⟨w.heap.size, k, none⟩) ∧ (∀ k, w2.cell? ⟨w.heap.size + 1, k, none⟩ = w1.cell? ⟨w.heap.size + 1, k, none⟩) :=
  ⟨fun k => h.cell (p := ⟨w.heap.size, k, none⟩) (by show w.heap.size < _; omega), fun k => h.cell (p := ⟨w.heap.size + 1, k, none⟩) (by show w.heap.size + 1 < _; omega)⟩
set_option maxHeartbeats 8000000 in
set_option maxRecDepth 100000 in
theorem rop_1 (k : Nat) (nm : Bool) (s : ByteArray) (off num : Int) (data : ByteArray) (w : World) (hn : reefref19_Name.f k s = some nm) :
    Calls Try.prog 41 #[.agg #[.int .i64 1, .string s, .int .i64 off, .int .i64 num, .string data]] w fun e w' => e = .returned (.bool ((upB off && (decide (data.size ≤ 64) && ((0 == num) && nm))))) ∧ Below w.heap.size w w' := by
  have hu := Try.underlying27
  have hz := Try.zeroValue27
  have HNM := Aside0.mk hn
  have HUO := Aside0.mk (upto_eq off)
  have HUN := Aside0.mk (upto_eq num)
  clear hn
  generalize upB off = uo at *
  generalize upB num = un at *
  have hd2 : decide ((data.size : Int) ≤ 64) = decide (data.size ≤ 64) := by rw [Bool.eq_iff_iff, decide_eq_true_iff, decide_eq_true_iff]; omega
  generalize hdd : decide (data.size ≤ 64) = dd at *
  generalize hzn : (0 == num) = zn at *
  cases uo with
  | false =>
    go_enter Try.func41, Try.ntmps41
    go_wp2_with (first
      | (go_at_call_of 61 off; refine (reefref19_upto.calls off _ _ HUO.out).mono ?_; rintro e' w1 ⟨rfl, hD⟩; have hW := hD.below; have HW1 := Aside0.mk hW; obtain ⟨ca, cb, z1⟩ := cells_keep hW; clear hW hD)
      | (go_at_call_of 61 num; refine (reefref19_upto.calls num _ _ HUN.out).mono ?_; rintro e' w1 ⟨rfl, hD⟩; have hW := hD.below; have HW1 := Aside0.mk hW; obtain ⟨ca, cb, z1⟩ := cells_keep hW; clear hW hD)
      | (go_at_call_of 61 num; refine (reefref19_upto.calls num _ _ HUN.out).mono ?_; rintro e' w2 ⟨rfl, hD⟩; have hW := hD.below; have HW2 := Aside0.mk hW; obtain ⟨ca2, cb2⟩ := cells_keep2 z1 hW; clear hW hD)
      | (go_at_call 62; refine (reefref19_Name.calls k s _ _ HNM.out).mono ?_; rintro e' w3 ⟨rfl, hD⟩; have hW := hD.below; have HW3 := Aside0.mk hW; clear hW hD))
    go_ret
    exact ⟨rfl, below_step (below_alloc (below_alloc (Below.refl _ _) _) _) HW1.out⟩
  | true =>
    cases dd with
    | false =>
      go_enter Try.func41, Try.ntmps41
      go_wp2_with (first
        | (go_at_call_of 61 off; refine (reefref19_upto.calls off _ _ HUO.out).mono ?_; rintro e' w1 ⟨rfl, hD⟩; have hW := hD.below; have HW1 := Aside0.mk hW; obtain ⟨ca, cb, z1⟩ := cells_keep hW; clear hW hD)
        | (go_at_call_of 61 num; refine (reefref19_upto.calls num _ _ HUN.out).mono ?_; rintro e' w1 ⟨rfl, hD⟩; have hW := hD.below; have HW1 := Aside0.mk hW; obtain ⟨ca, cb, z1⟩ := cells_keep hW; clear hW hD)
        | (go_at_call_of 61 num; refine (reefref19_upto.calls num _ _ HUN.out).mono ?_; rintro e' w2 ⟨rfl, hD⟩; have hW := hD.below; have HW2 := Aside0.mk hW; obtain ⟨ca2, cb2⟩ := cells_keep2 z1 hW; clear hW hD)
        | (go_at_call 62; refine (reefref19_Name.calls k s _ _ HNM.out).mono ?_; rintro e' w3 ⟨rfl, hD⟩; have hW := hD.below; have HW3 := Aside0.mk hW; clear hW hD))
      go_ret
      exact ⟨rfl, below_step (below_alloc (below_alloc (Below.refl _ _) _) _) HW1.out⟩
    | true =>
      cases zn with
      | false =>
        go_enter Try.func41, Try.ntmps41
        go_wp2_with (first
          | (go_at_call_of 61 off; refine (reefref19_upto.calls off _ _ HUO.out).mono ?_; rintro e' w1 ⟨rfl, hD⟩; have hW := hD.below; have HW1 := Aside0.mk hW; obtain ⟨ca, cb, z1⟩ := cells_keep hW; clear hW hD)
          | (go_at_call_of 61 num; refine (reefref19_upto.calls num _ _ HUN.out).mono ?_; rintro e' w1 ⟨rfl, hD⟩; have hW := hD.below; have HW1 := Aside0.mk hW; obtain ⟨ca, cb, z1⟩ := cells_keep hW; clear hW hD)
          | (go_at_call_of 61 num; refine (reefref19_upto.calls num _ _ HUN.out).mono ?_; rintro e' w2 ⟨rfl, hD⟩; have hW := hD.below; have HW2 := Aside0.mk hW; obtain ⟨ca2, cb2⟩ := cells_keep2 z1 hW; clear hW hD)
          | (go_at_call 62; refine (reefref19_Name.calls k s _ _ HNM.out).mono ?_; rintro e' w3 ⟨rfl, hD⟩; have hW := hD.below; have HW3 := Aside0.mk hW; clear hW hD))
        go_ret
        exact ⟨rfl, below_step (below_alloc (below_alloc (Below.refl _ _) _) _) HW1.out⟩
      | true =>
        go_enter Try.func41, Try.ntmps41
        go_wp2_with (first
          | (go_at_call_of 61 off; refine (reefref19_upto.calls off _ _ HUO.out).mono ?_; rintro e' w1 ⟨rfl, hD⟩; have hW := hD.below; have HW1 := Aside0.mk hW; obtain ⟨ca, cb, z1⟩ := cells_keep hW; clear hW hD)
          | (go_at_call_of 61 num; refine (reefref19_upto.calls num _ _ HUN.out).mono ?_; rintro e' w1 ⟨rfl, hD⟩; have hW := hD.below; have HW1 := Aside0.mk hW; obtain ⟨ca, cb, z1⟩ := cells_keep hW; clear hW hD)
          | (go_at_call_of 61 num; refine (reefref19_upto.calls num _ _ HUN.out).mono ?_; rintro e' w2 ⟨rfl, hD⟩; have hW := hD.below; have HW2 := Aside0.mk hW; obtain ⟨ca2, cb2⟩ := cells_keep2 z1 hW; clear hW hD)
          | (go_at_call 62; refine (reefref19_Name.calls k s _ _ HNM.out).mono ?_; rintro e' w3 ⟨rfl, hD⟩; have hW := hD.below; have HW3 := Aside0.mk hW; clear hW hD))
        go_ret
        exact ⟨rfl, below_step (below_step (below_alloc (below_alloc (Below.refl _ _) _) _) HW1.out) HW3.out⟩
set_option maxHeartbeats 8000000 in
set_option maxRecDepth 100000 in
theorem rop_2 (k : Nat) (nm : Bool) (s : ByteArray) (off num : Int) (data : ByteArray) (w : World) (hn : reefref19_Name.f k s = some nm) :
    Calls Try.prog 41 #[.agg #[.int .i64 2, .string s, .int .i64 off, .int .i64 num, .string data]] w fun e w' => e = .returned (.bool ((upB off && (upB num && ((([] : List UInt8) == data.toList) && nm))))) ∧ Below w.heap.size w w' := by
  have hu := Try.underlying27
  have hz := Try.zeroValue27
  have HNM := Aside0.mk hn
  have HUO := Aside0.mk (upto_eq off)
  have HUN := Aside0.mk (upto_eq num)
  clear hn
  generalize upB off = uo at *
  generalize upB num = un at *
  generalize hzd : (([] : List UInt8) == data.toList) = zd at *
  cases uo with
  | false =>
    go_enter Try.func41, Try.ntmps41
    go_wp2_with (first
      | (go_at_call_of 61 off; refine (reefref19_upto.calls off _ _ HUO.out).mono ?_; rintro e' w1 ⟨rfl, hD⟩; have hW := hD.below; have HW1 := Aside0.mk hW; obtain ⟨ca, cb, z1⟩ := cells_keep hW; clear hW hD)
      | (go_at_call_of 61 num; refine (reefref19_upto.calls num _ _ HUN.out).mono ?_; rintro e' w1 ⟨rfl, hD⟩; have hW := hD.below; have HW1 := Aside0.mk hW; obtain ⟨ca, cb, z1⟩ := cells_keep hW; clear hW hD)
      | (go_at_call_of 61 num; refine (reefref19_upto.calls num _ _ HUN.out).mono ?_; rintro e' w2 ⟨rfl, hD⟩; have hW := hD.below; have HW2 := Aside0.mk hW; obtain ⟨ca2, cb2⟩ := cells_keep2 z1 hW; clear hW hD)
      | (go_at_call 62; refine (reefref19_Name.calls k s _ _ HNM.out).mono ?_; rintro e' w3 ⟨rfl, hD⟩; have hW := hD.below; have HW3 := Aside0.mk hW; clear hW hD))
    go_ret
    exact ⟨rfl, below_step (below_alloc (below_alloc (Below.refl _ _) _) _) HW1.out⟩
  | true =>
    cases un with
    | false =>
      go_enter Try.func41, Try.ntmps41
      go_wp2_with (first
        | (go_at_call_of 61 off; refine (reefref19_upto.calls off _ _ HUO.out).mono ?_; rintro e' w1 ⟨rfl, hD⟩; have hW := hD.below; have HW1 := Aside0.mk hW; obtain ⟨ca, cb, z1⟩ := cells_keep hW; clear hW hD)
        | (go_at_call_of 61 num; refine (reefref19_upto.calls num _ _ HUN.out).mono ?_; rintro e' w1 ⟨rfl, hD⟩; have hW := hD.below; have HW1 := Aside0.mk hW; obtain ⟨ca, cb, z1⟩ := cells_keep hW; clear hW hD)
        | (go_at_call_of 61 num; refine (reefref19_upto.calls num _ _ HUN.out).mono ?_; rintro e' w2 ⟨rfl, hD⟩; have hW := hD.below; have HW2 := Aside0.mk hW; obtain ⟨ca2, cb2⟩ := cells_keep2 z1 hW; clear hW hD)
        | (go_at_call 62; refine (reefref19_Name.calls k s _ _ HNM.out).mono ?_; rintro e' w3 ⟨rfl, hD⟩; have hW := hD.below; have HW3 := Aside0.mk hW; clear hW hD))
      go_ret
      exact ⟨rfl, below_step (below_step (below_alloc (below_alloc (Below.refl _ _) _) _) HW1.out) HW2.out⟩
    | true =>
      cases zd with
      | false =>
        go_enter Try.func41, Try.ntmps41
        go_wp2_with (first
          | (go_at_call_of 61 off; refine (reefref19_upto.calls off _ _ HUO.out).mono ?_; rintro e' w1 ⟨rfl, hD⟩; have hW := hD.below; have HW1 := Aside0.mk hW; obtain ⟨ca, cb, z1⟩ := cells_keep hW; clear hW hD)
          | (go_at_call_of 61 num; refine (reefref19_upto.calls num _ _ HUN.out).mono ?_; rintro e' w1 ⟨rfl, hD⟩; have hW := hD.below; have HW1 := Aside0.mk hW; obtain ⟨ca, cb, z1⟩ := cells_keep hW; clear hW hD)
          | (go_at_call_of 61 num; refine (reefref19_upto.calls num _ _ HUN.out).mono ?_; rintro e' w2 ⟨rfl, hD⟩; have hW := hD.below; have HW2 := Aside0.mk hW; obtain ⟨ca2, cb2⟩ := cells_keep2 z1 hW; clear hW hD)
          | (go_at_call 62; refine (reefref19_Name.calls k s _ _ HNM.out).mono ?_; rintro e' w3 ⟨rfl, hD⟩; have hW := hD.below; have HW3 := Aside0.mk hW; clear hW hD))
        go_ret
        exact ⟨rfl, below_step (below_step (below_alloc (below_alloc (Below.refl _ _) _) _) HW1.out) HW2.out⟩
      | true =>
        go_enter Try.func41, Try.ntmps41
        go_wp2_with (first
          | (go_at_call_of 61 off; refine (reefref19_upto.calls off _ _ HUO.out).mono ?_; rintro e' w1 ⟨rfl, hD⟩; have hW := hD.below; have HW1 := Aside0.mk hW; obtain ⟨ca, cb, z1⟩ := cells_keep hW; clear hW hD)
          | (go_at_call_of 61 num; refine (reefref19_upto.calls num _ _ HUN.out).mono ?_; rintro e' w1 ⟨rfl, hD⟩; have hW := hD.below; have HW1 := Aside0.mk hW; obtain ⟨ca, cb, z1⟩ := cells_keep hW; clear hW hD)
          | (go_at_call_of 61 num; refine (reefref19_upto.calls num _ _ HUN.out).mono ?_; rintro e' w2 ⟨rfl, hD⟩; have hW := hD.below; have HW2 := Aside0.mk hW; obtain ⟨ca2, cb2⟩ := cells_keep2 z1 hW; clear hW hD)
          | (go_at_call 62; refine (reefref19_Name.calls k s _ _ HNM.out).mono ?_; rintro e' w3 ⟨rfl, hD⟩; have hW := hD.below; have HW3 := Aside0.mk hW; clear hW hD))
        go_ret
        exact ⟨rfl, below_step (below_step (below_step (below_alloc (below_alloc (Below.refl _ _) _) _) HW1.out) HW2.out) HW3.out⟩
set_option maxHeartbeats 8000000 in
set_option maxRecDepth 100000 in
theorem rop_3 (k : Nat) (nm : Bool) (s : ByteArray) (off num : Int) (data : ByteArray) (w : World) (hn : reefref19_Name.f k s = some nm) :
    Calls Try.prog 41 #[.agg #[.int .i64 3, .string s, .int .i64 off, .int .i64 num, .string data]] w fun e w' => e = .returned (.bool ((upB num && ((0 == off) && ((([] : List UInt8) == data.toList) && nm))))) ∧ Below w.heap.size w w' := by
  have hu := Try.underlying27
  have hz := Try.zeroValue27
  have HNM := Aside0.mk hn
  have HUO := Aside0.mk (upto_eq off)
  have HUN := Aside0.mk (upto_eq num)
  clear hn
  generalize upB off = uo at *
  generalize upB num = un at *
  generalize hzo : (0 == off) = zo at *
  generalize hzd : (([] : List UInt8) == data.toList) = zd at *
  cases un with
  | false =>
    go_enter Try.func41, Try.ntmps41
    go_wp2_with (first
      | (go_at_call_of 61 off; refine (reefref19_upto.calls off _ _ HUO.out).mono ?_; rintro e' w1 ⟨rfl, hD⟩; have hW := hD.below; have HW1 := Aside0.mk hW; obtain ⟨ca, cb, z1⟩ := cells_keep hW; clear hW hD)
      | (go_at_call_of 61 num; refine (reefref19_upto.calls num _ _ HUN.out).mono ?_; rintro e' w1 ⟨rfl, hD⟩; have hW := hD.below; have HW1 := Aside0.mk hW; obtain ⟨ca, cb, z1⟩ := cells_keep hW; clear hW hD)
      | (go_at_call_of 61 num; refine (reefref19_upto.calls num _ _ HUN.out).mono ?_; rintro e' w2 ⟨rfl, hD⟩; have hW := hD.below; have HW2 := Aside0.mk hW; obtain ⟨ca2, cb2⟩ := cells_keep2 z1 hW; clear hW hD)
      | (go_at_call 62; refine (reefref19_Name.calls k s _ _ HNM.out).mono ?_; rintro e' w3 ⟨rfl, hD⟩; have hW := hD.below; have HW3 := Aside0.mk hW; clear hW hD))
    go_ret
    exact ⟨rfl, below_step (below_alloc (below_alloc (Below.refl _ _) _) _) HW1.out⟩
  | true =>
    cases zo with
    | false =>
      go_enter Try.func41, Try.ntmps41
      go_wp2_with (first
        | (go_at_call_of 61 off; refine (reefref19_upto.calls off _ _ HUO.out).mono ?_; rintro e' w1 ⟨rfl, hD⟩; have hW := hD.below; have HW1 := Aside0.mk hW; obtain ⟨ca, cb, z1⟩ := cells_keep hW; clear hW hD)
        | (go_at_call_of 61 num; refine (reefref19_upto.calls num _ _ HUN.out).mono ?_; rintro e' w1 ⟨rfl, hD⟩; have hW := hD.below; have HW1 := Aside0.mk hW; obtain ⟨ca, cb, z1⟩ := cells_keep hW; clear hW hD)
        | (go_at_call_of 61 num; refine (reefref19_upto.calls num _ _ HUN.out).mono ?_; rintro e' w2 ⟨rfl, hD⟩; have hW := hD.below; have HW2 := Aside0.mk hW; obtain ⟨ca2, cb2⟩ := cells_keep2 z1 hW; clear hW hD)
        | (go_at_call 62; refine (reefref19_Name.calls k s _ _ HNM.out).mono ?_; rintro e' w3 ⟨rfl, hD⟩; have hW := hD.below; have HW3 := Aside0.mk hW; clear hW hD))
      go_ret
      exact ⟨rfl, below_step (below_alloc (below_alloc (Below.refl _ _) _) _) HW1.out⟩
    | true =>
      cases zd with
      | false =>
        go_enter Try.func41, Try.ntmps41
        go_wp2_with (first
          | (go_at_call_of 61 off; refine (reefref19_upto.calls off _ _ HUO.out).mono ?_; rintro e' w1 ⟨rfl, hD⟩; have hW := hD.below; have HW1 := Aside0.mk hW; obtain ⟨ca, cb, z1⟩ := cells_keep hW; clear hW hD)
          | (go_at_call_of 61 num; refine (reefref19_upto.calls num _ _ HUN.out).mono ?_; rintro e' w1 ⟨rfl, hD⟩; have hW := hD.below; have HW1 := Aside0.mk hW; obtain ⟨ca, cb, z1⟩ := cells_keep hW; clear hW hD)
          | (go_at_call_of 61 num; refine (reefref19_upto.calls num _ _ HUN.out).mono ?_; rintro e' w2 ⟨rfl, hD⟩; have hW := hD.below; have HW2 := Aside0.mk hW; obtain ⟨ca2, cb2⟩ := cells_keep2 z1 hW; clear hW hD)
          | (go_at_call 62; refine (reefref19_Name.calls k s _ _ HNM.out).mono ?_; rintro e' w3 ⟨rfl, hD⟩; have hW := hD.below; have HW3 := Aside0.mk hW; clear hW hD))
        go_ret
        exact ⟨rfl, below_step (below_alloc (below_alloc (Below.refl _ _) _) _) HW1.out⟩
      | true =>
        go_enter Try.func41, Try.ntmps41
        go_wp2_with (first
          | (go_at_call_of 61 off; refine (reefref19_upto.calls off _ _ HUO.out).mono ?_; rintro e' w1 ⟨rfl, hD⟩; have hW := hD.below; have HW1 := Aside0.mk hW; obtain ⟨ca, cb, z1⟩ := cells_keep hW; clear hW hD)
          | (go_at_call_of 61 num; refine (reefref19_upto.calls num _ _ HUN.out).mono ?_; rintro e' w1 ⟨rfl, hD⟩; have hW := hD.below; have HW1 := Aside0.mk hW; obtain ⟨ca, cb, z1⟩ := cells_keep hW; clear hW hD)
          | (go_at_call_of 61 num; refine (reefref19_upto.calls num _ _ HUN.out).mono ?_; rintro e' w2 ⟨rfl, hD⟩; have hW := hD.below; have HW2 := Aside0.mk hW; obtain ⟨ca2, cb2⟩ := cells_keep2 z1 hW; clear hW hD)
          | (go_at_call 62; refine (reefref19_Name.calls k s _ _ HNM.out).mono ?_; rintro e' w3 ⟨rfl, hD⟩; have hW := hD.below; have HW3 := Aside0.mk hW; clear hW hD))
        go_ret
        exact ⟨rfl, below_step (below_step (below_alloc (below_alloc (Below.refl _ _) _) _) HW1.out) HW3.out⟩
set_option maxHeartbeats 8000000 in
set_option maxRecDepth 100000 in
theorem rop_4 (k : Nat) (nm : Bool) (s : ByteArray) (off num : Int) (data : ByteArray) (w : World) (hn : reefref19_Name.f k s = some nm) :
    Calls Try.prog 41 #[.agg #[.int .i64 4, .string s, .int .i64 off, .int .i64 num, .string data]] w fun e w' => e = .returned (.bool (((0 == off) && ((0 == num) && ((([] : List UInt8) == data.toList) && nm))))) ∧ Below w.heap.size w w' := by
  have hu := Try.underlying27
  have hz := Try.zeroValue27
  have HNM := Aside0.mk hn
  have HUO := Aside0.mk (upto_eq off)
  have HUN := Aside0.mk (upto_eq num)
  clear hn
  generalize upB off = uo at *
  generalize upB num = un at *
  generalize hzo : (0 == off) = zo at *
  generalize hzn : (0 == num) = zn at *
  generalize hzd : (([] : List UInt8) == data.toList) = zd at *
  cases zo with
  | false =>
    go_enter Try.func41, Try.ntmps41
    go_wp2_with (first
      | (go_at_call_of 61 off; refine (reefref19_upto.calls off _ _ HUO.out).mono ?_; rintro e' w1 ⟨rfl, hD⟩; have hW := hD.below; have HW1 := Aside0.mk hW; obtain ⟨ca, cb, z1⟩ := cells_keep hW; clear hW hD)
      | (go_at_call_of 61 num; refine (reefref19_upto.calls num _ _ HUN.out).mono ?_; rintro e' w1 ⟨rfl, hD⟩; have hW := hD.below; have HW1 := Aside0.mk hW; obtain ⟨ca, cb, z1⟩ := cells_keep hW; clear hW hD)
      | (go_at_call_of 61 num; refine (reefref19_upto.calls num _ _ HUN.out).mono ?_; rintro e' w2 ⟨rfl, hD⟩; have hW := hD.below; have HW2 := Aside0.mk hW; obtain ⟨ca2, cb2⟩ := cells_keep2 z1 hW; clear hW hD)
      | (go_at_call 62; refine (reefref19_Name.calls k s _ _ HNM.out).mono ?_; rintro e' w3 ⟨rfl, hD⟩; have hW := hD.below; have HW3 := Aside0.mk hW; clear hW hD))
    go_ret
    exact ⟨rfl, below_alloc (below_alloc (Below.refl _ _) _) _⟩
  | true =>
    cases zn with
    | false =>
      go_enter Try.func41, Try.ntmps41
      go_wp2_with (first
        | (go_at_call_of 61 off; refine (reefref19_upto.calls off _ _ HUO.out).mono ?_; rintro e' w1 ⟨rfl, hD⟩; have hW := hD.below; have HW1 := Aside0.mk hW; obtain ⟨ca, cb, z1⟩ := cells_keep hW; clear hW hD)
        | (go_at_call_of 61 num; refine (reefref19_upto.calls num _ _ HUN.out).mono ?_; rintro e' w1 ⟨rfl, hD⟩; have hW := hD.below; have HW1 := Aside0.mk hW; obtain ⟨ca, cb, z1⟩ := cells_keep hW; clear hW hD)
        | (go_at_call_of 61 num; refine (reefref19_upto.calls num _ _ HUN.out).mono ?_; rintro e' w2 ⟨rfl, hD⟩; have hW := hD.below; have HW2 := Aside0.mk hW; obtain ⟨ca2, cb2⟩ := cells_keep2 z1 hW; clear hW hD)
        | (go_at_call 62; refine (reefref19_Name.calls k s _ _ HNM.out).mono ?_; rintro e' w3 ⟨rfl, hD⟩; have hW := hD.below; have HW3 := Aside0.mk hW; clear hW hD))
      go_ret
      exact ⟨rfl, below_alloc (below_alloc (Below.refl _ _) _) _⟩
    | true =>
      cases zd with
      | false =>
        go_enter Try.func41, Try.ntmps41
        go_wp2_with (first
          | (go_at_call_of 61 off; refine (reefref19_upto.calls off _ _ HUO.out).mono ?_; rintro e' w1 ⟨rfl, hD⟩; have hW := hD.below; have HW1 := Aside0.mk hW; obtain ⟨ca, cb, z1⟩ := cells_keep hW; clear hW hD)
          | (go_at_call_of 61 num; refine (reefref19_upto.calls num _ _ HUN.out).mono ?_; rintro e' w1 ⟨rfl, hD⟩; have hW := hD.below; have HW1 := Aside0.mk hW; obtain ⟨ca, cb, z1⟩ := cells_keep hW; clear hW hD)
          | (go_at_call_of 61 num; refine (reefref19_upto.calls num _ _ HUN.out).mono ?_; rintro e' w2 ⟨rfl, hD⟩; have hW := hD.below; have HW2 := Aside0.mk hW; obtain ⟨ca2, cb2⟩ := cells_keep2 z1 hW; clear hW hD)
          | (go_at_call 62; refine (reefref19_Name.calls k s _ _ HNM.out).mono ?_; rintro e' w3 ⟨rfl, hD⟩; have hW := hD.below; have HW3 := Aside0.mk hW; clear hW hD))
        go_ret
        exact ⟨rfl, below_alloc (below_alloc (Below.refl _ _) _) _⟩
      | true =>
        go_enter Try.func41, Try.ntmps41
        go_wp2_with (first
          | (go_at_call_of 61 off; refine (reefref19_upto.calls off _ _ HUO.out).mono ?_; rintro e' w1 ⟨rfl, hD⟩; have hW := hD.below; have HW1 := Aside0.mk hW; obtain ⟨ca, cb, z1⟩ := cells_keep hW; clear hW hD)
          | (go_at_call_of 61 num; refine (reefref19_upto.calls num _ _ HUN.out).mono ?_; rintro e' w1 ⟨rfl, hD⟩; have hW := hD.below; have HW1 := Aside0.mk hW; obtain ⟨ca, cb, z1⟩ := cells_keep hW; clear hW hD)
          | (go_at_call_of 61 num; refine (reefref19_upto.calls num _ _ HUN.out).mono ?_; rintro e' w2 ⟨rfl, hD⟩; have hW := hD.below; have HW2 := Aside0.mk hW; obtain ⟨ca2, cb2⟩ := cells_keep2 z1 hW; clear hW hD)
          | (go_at_call 62; refine (reefref19_Name.calls k s _ _ HNM.out).mono ?_; rintro e' w3 ⟨rfl, hD⟩; have hW := hD.below; have HW3 := Aside0.mk hW; clear hW hD))
        go_ret
        exact ⟨rfl, below_step (below_alloc (below_alloc (Below.refl _ _) _) _) HW3.out⟩
set_option maxHeartbeats 8000000 in
set_option maxRecDepth 100000 in
theorem rop_5 (k : Nat) (nm : Bool) (s : ByteArray) (off num : Int) (data : ByteArray) (w : World) (hn : reefref19_Name.f k s = some nm) :
    Calls Try.prog 41 #[.agg #[.int .i64 5, .string s, .int .i64 off, .int .i64 num, .string data]] w fun e w' => e = .returned (.bool ((upB off && (upB num && ((([] : List UInt8) == data.toList) && nm))))) ∧ Below w.heap.size w w' := by
  have hu := Try.underlying27
  have hz := Try.zeroValue27
  have HNM := Aside0.mk hn
  have HUO := Aside0.mk (upto_eq off)
  have HUN := Aside0.mk (upto_eq num)
  clear hn
  generalize upB off = uo at *
  generalize upB num = un at *
  generalize hzd : (([] : List UInt8) == data.toList) = zd at *
  cases uo with
  | false =>
    go_enter Try.func41, Try.ntmps41
    go_wp2_with (first
      | (go_at_call_of 61 off; refine (reefref19_upto.calls off _ _ HUO.out).mono ?_; rintro e' w1 ⟨rfl, hD⟩; have hW := hD.below; have HW1 := Aside0.mk hW; obtain ⟨ca, cb, z1⟩ := cells_keep hW; clear hW hD)
      | (go_at_call_of 61 num; refine (reefref19_upto.calls num _ _ HUN.out).mono ?_; rintro e' w1 ⟨rfl, hD⟩; have hW := hD.below; have HW1 := Aside0.mk hW; obtain ⟨ca, cb, z1⟩ := cells_keep hW; clear hW hD)
      | (go_at_call_of 61 num; refine (reefref19_upto.calls num _ _ HUN.out).mono ?_; rintro e' w2 ⟨rfl, hD⟩; have hW := hD.below; have HW2 := Aside0.mk hW; obtain ⟨ca2, cb2⟩ := cells_keep2 z1 hW; clear hW hD)
      | (go_at_call 62; refine (reefref19_Name.calls k s _ _ HNM.out).mono ?_; rintro e' w3 ⟨rfl, hD⟩; have hW := hD.below; have HW3 := Aside0.mk hW; clear hW hD))
    go_ret
    exact ⟨rfl, below_step (below_alloc (below_alloc (Below.refl _ _) _) _) HW1.out⟩
  | true =>
    cases un with
    | false =>
      go_enter Try.func41, Try.ntmps41
      go_wp2_with (first
        | (go_at_call_of 61 off; refine (reefref19_upto.calls off _ _ HUO.out).mono ?_; rintro e' w1 ⟨rfl, hD⟩; have hW := hD.below; have HW1 := Aside0.mk hW; obtain ⟨ca, cb, z1⟩ := cells_keep hW; clear hW hD)
        | (go_at_call_of 61 num; refine (reefref19_upto.calls num _ _ HUN.out).mono ?_; rintro e' w1 ⟨rfl, hD⟩; have hW := hD.below; have HW1 := Aside0.mk hW; obtain ⟨ca, cb, z1⟩ := cells_keep hW; clear hW hD)
        | (go_at_call_of 61 num; refine (reefref19_upto.calls num _ _ HUN.out).mono ?_; rintro e' w2 ⟨rfl, hD⟩; have hW := hD.below; have HW2 := Aside0.mk hW; obtain ⟨ca2, cb2⟩ := cells_keep2 z1 hW; clear hW hD)
        | (go_at_call 62; refine (reefref19_Name.calls k s _ _ HNM.out).mono ?_; rintro e' w3 ⟨rfl, hD⟩; have hW := hD.below; have HW3 := Aside0.mk hW; clear hW hD))
      go_ret
      exact ⟨rfl, below_step (below_step (below_alloc (below_alloc (Below.refl _ _) _) _) HW1.out) HW2.out⟩
    | true =>
      cases zd with
      | false =>
        go_enter Try.func41, Try.ntmps41
        go_wp2_with (first
          | (go_at_call_of 61 off; refine (reefref19_upto.calls off _ _ HUO.out).mono ?_; rintro e' w1 ⟨rfl, hD⟩; have hW := hD.below; have HW1 := Aside0.mk hW; obtain ⟨ca, cb, z1⟩ := cells_keep hW; clear hW hD)
          | (go_at_call_of 61 num; refine (reefref19_upto.calls num _ _ HUN.out).mono ?_; rintro e' w1 ⟨rfl, hD⟩; have hW := hD.below; have HW1 := Aside0.mk hW; obtain ⟨ca, cb, z1⟩ := cells_keep hW; clear hW hD)
          | (go_at_call_of 61 num; refine (reefref19_upto.calls num _ _ HUN.out).mono ?_; rintro e' w2 ⟨rfl, hD⟩; have hW := hD.below; have HW2 := Aside0.mk hW; obtain ⟨ca2, cb2⟩ := cells_keep2 z1 hW; clear hW hD)
          | (go_at_call 62; refine (reefref19_Name.calls k s _ _ HNM.out).mono ?_; rintro e' w3 ⟨rfl, hD⟩; have hW := hD.below; have HW3 := Aside0.mk hW; clear hW hD))
        go_ret
        exact ⟨rfl, below_step (below_step (below_alloc (below_alloc (Below.refl _ _) _) _) HW1.out) HW2.out⟩
      | true =>
        go_enter Try.func41, Try.ntmps41
        go_wp2_with (first
          | (go_at_call_of 61 off; refine (reefref19_upto.calls off _ _ HUO.out).mono ?_; rintro e' w1 ⟨rfl, hD⟩; have hW := hD.below; have HW1 := Aside0.mk hW; obtain ⟨ca, cb, z1⟩ := cells_keep hW; clear hW hD)
          | (go_at_call_of 61 num; refine (reefref19_upto.calls num _ _ HUN.out).mono ?_; rintro e' w1 ⟨rfl, hD⟩; have hW := hD.below; have HW1 := Aside0.mk hW; obtain ⟨ca, cb, z1⟩ := cells_keep hW; clear hW hD)
          | (go_at_call_of 61 num; refine (reefref19_upto.calls num _ _ HUN.out).mono ?_; rintro e' w2 ⟨rfl, hD⟩; have hW := hD.below; have HW2 := Aside0.mk hW; obtain ⟨ca2, cb2⟩ := cells_keep2 z1 hW; clear hW hD)
          | (go_at_call 62; refine (reefref19_Name.calls k s _ _ HNM.out).mono ?_; rintro e' w3 ⟨rfl, hD⟩; have hW := hD.below; have HW3 := Aside0.mk hW; clear hW hD))
        go_ret
        exact ⟨rfl, below_step (below_step (below_step (below_alloc (below_alloc (Below.refl _ _) _) _) HW1.out) HW2.out) HW3.out⟩
set_option maxHeartbeats 8000000 in
set_option maxRecDepth 100000 in
theorem rop_6 (k : Nat) (nm : Bool) (s : ByteArray) (off num : Int) (data : ByteArray) (w : World) (hn : reefref19_Name.f k s = some nm) :
    Calls Try.prog 41 #[.agg #[.int .i64 6, .string s, .int .i64 off, .int .i64 num, .string data]] w fun e w' => e = .returned (.bool (((0 == off) && ((0 == num) && ((([] : List UInt8) == data.toList) && nm))))) ∧ Below w.heap.size w w' := by
  have hu := Try.underlying27
  have hz := Try.zeroValue27
  have HNM := Aside0.mk hn
  have HUO := Aside0.mk (upto_eq off)
  have HUN := Aside0.mk (upto_eq num)
  clear hn
  generalize upB off = uo at *
  generalize upB num = un at *
  generalize hzo : (0 == off) = zo at *
  generalize hzn : (0 == num) = zn at *
  generalize hzd : (([] : List UInt8) == data.toList) = zd at *
  cases zo with
  | false =>
    go_enter Try.func41, Try.ntmps41
    go_wp2_with (first
      | (go_at_call_of 61 off; refine (reefref19_upto.calls off _ _ HUO.out).mono ?_; rintro e' w1 ⟨rfl, hD⟩; have hW := hD.below; have HW1 := Aside0.mk hW; obtain ⟨ca, cb, z1⟩ := cells_keep hW; clear hW hD)
      | (go_at_call_of 61 num; refine (reefref19_upto.calls num _ _ HUN.out).mono ?_; rintro e' w1 ⟨rfl, hD⟩; have hW := hD.below; have HW1 := Aside0.mk hW; obtain ⟨ca, cb, z1⟩ := cells_keep hW; clear hW hD)
      | (go_at_call_of 61 num; refine (reefref19_upto.calls num _ _ HUN.out).mono ?_; rintro e' w2 ⟨rfl, hD⟩; have hW := hD.below; have HW2 := Aside0.mk hW; obtain ⟨ca2, cb2⟩ := cells_keep2 z1 hW; clear hW hD)
      | (go_at_call 62; refine (reefref19_Name.calls k s _ _ HNM.out).mono ?_; rintro e' w3 ⟨rfl, hD⟩; have hW := hD.below; have HW3 := Aside0.mk hW; clear hW hD))
    go_ret
    exact ⟨rfl, below_alloc (below_alloc (Below.refl _ _) _) _⟩
  | true =>
    cases zn with
    | false =>
      go_enter Try.func41, Try.ntmps41
      go_wp2_with (first
        | (go_at_call_of 61 off; refine (reefref19_upto.calls off _ _ HUO.out).mono ?_; rintro e' w1 ⟨rfl, hD⟩; have hW := hD.below; have HW1 := Aside0.mk hW; obtain ⟨ca, cb, z1⟩ := cells_keep hW; clear hW hD)
        | (go_at_call_of 61 num; refine (reefref19_upto.calls num _ _ HUN.out).mono ?_; rintro e' w1 ⟨rfl, hD⟩; have hW := hD.below; have HW1 := Aside0.mk hW; obtain ⟨ca, cb, z1⟩ := cells_keep hW; clear hW hD)
        | (go_at_call_of 61 num; refine (reefref19_upto.calls num _ _ HUN.out).mono ?_; rintro e' w2 ⟨rfl, hD⟩; have hW := hD.below; have HW2 := Aside0.mk hW; obtain ⟨ca2, cb2⟩ := cells_keep2 z1 hW; clear hW hD)
        | (go_at_call 62; refine (reefref19_Name.calls k s _ _ HNM.out).mono ?_; rintro e' w3 ⟨rfl, hD⟩; have hW := hD.below; have HW3 := Aside0.mk hW; clear hW hD))
      go_ret
      exact ⟨rfl, below_alloc (below_alloc (Below.refl _ _) _) _⟩
    | true =>
      cases zd with
      | false =>
        go_enter Try.func41, Try.ntmps41
        go_wp2_with (first
          | (go_at_call_of 61 off; refine (reefref19_upto.calls off _ _ HUO.out).mono ?_; rintro e' w1 ⟨rfl, hD⟩; have hW := hD.below; have HW1 := Aside0.mk hW; obtain ⟨ca, cb, z1⟩ := cells_keep hW; clear hW hD)
          | (go_at_call_of 61 num; refine (reefref19_upto.calls num _ _ HUN.out).mono ?_; rintro e' w1 ⟨rfl, hD⟩; have hW := hD.below; have HW1 := Aside0.mk hW; obtain ⟨ca, cb, z1⟩ := cells_keep hW; clear hW hD)
          | (go_at_call_of 61 num; refine (reefref19_upto.calls num _ _ HUN.out).mono ?_; rintro e' w2 ⟨rfl, hD⟩; have hW := hD.below; have HW2 := Aside0.mk hW; obtain ⟨ca2, cb2⟩ := cells_keep2 z1 hW; clear hW hD)
          | (go_at_call 62; refine (reefref19_Name.calls k s _ _ HNM.out).mono ?_; rintro e' w3 ⟨rfl, hD⟩; have hW := hD.below; have HW3 := Aside0.mk hW; clear hW hD))
        go_ret
        exact ⟨rfl, below_alloc (below_alloc (Below.refl _ _) _) _⟩
      | true =>
        go_enter Try.func41, Try.ntmps41
        go_wp2_with (first
          | (go_at_call_of 61 off; refine (reefref19_upto.calls off _ _ HUO.out).mono ?_; rintro e' w1 ⟨rfl, hD⟩; have hW := hD.below; have HW1 := Aside0.mk hW; obtain ⟨ca, cb, z1⟩ := cells_keep hW; clear hW hD)
          | (go_at_call_of 61 num; refine (reefref19_upto.calls num _ _ HUN.out).mono ?_; rintro e' w1 ⟨rfl, hD⟩; have hW := hD.below; have HW1 := Aside0.mk hW; obtain ⟨ca, cb, z1⟩ := cells_keep hW; clear hW hD)
          | (go_at_call_of 61 num; refine (reefref19_upto.calls num _ _ HUN.out).mono ?_; rintro e' w2 ⟨rfl, hD⟩; have hW := hD.below; have HW2 := Aside0.mk hW; obtain ⟨ca2, cb2⟩ := cells_keep2 z1 hW; clear hW hD)
          | (go_at_call 62; refine (reefref19_Name.calls k s _ _ HNM.out).mono ?_; rintro e' w3 ⟨rfl, hD⟩; have hW := hD.below; have HW3 := Aside0.mk hW; clear hW hD))
        go_ret
        exact ⟨rfl, below_step (below_alloc (below_alloc (Below.refl _ _) _) _) HW3.out⟩
set_option maxHeartbeats 8000000 in
set_option maxRecDepth 100000 in
theorem rop_7 (k : Nat) (nm : Bool) (s : ByteArray) (off num : Int) (data : ByteArray) (w : World) (hn : reefref19_Name.f k s = some nm) :
    Calls Try.prog 41 #[.agg #[.int .i64 7, .string s, .int .i64 off, .int .i64 num, .string data]] w fun e w' => e = .returned (.bool (((0 == off) && ((0 == num) && ((([] : List UInt8) == data.toList) && nm))))) ∧ Below w.heap.size w w' := by
  have hu := Try.underlying27
  have hz := Try.zeroValue27
  have HNM := Aside0.mk hn
  have HUO := Aside0.mk (upto_eq off)
  have HUN := Aside0.mk (upto_eq num)
  clear hn
  generalize upB off = uo at *
  generalize upB num = un at *
  generalize hzo : (0 == off) = zo at *
  generalize hzn : (0 == num) = zn at *
  generalize hzd : (([] : List UInt8) == data.toList) = zd at *
  cases zo with
  | false =>
    go_enter Try.func41, Try.ntmps41
    go_wp2_with (first
      | (go_at_call_of 61 off; refine (reefref19_upto.calls off _ _ HUO.out).mono ?_; rintro e' w1 ⟨rfl, hD⟩; have hW := hD.below; have HW1 := Aside0.mk hW; obtain ⟨ca, cb, z1⟩ := cells_keep hW; clear hW hD)
      | (go_at_call_of 61 num; refine (reefref19_upto.calls num _ _ HUN.out).mono ?_; rintro e' w1 ⟨rfl, hD⟩; have hW := hD.below; have HW1 := Aside0.mk hW; obtain ⟨ca, cb, z1⟩ := cells_keep hW; clear hW hD)
      | (go_at_call_of 61 num; refine (reefref19_upto.calls num _ _ HUN.out).mono ?_; rintro e' w2 ⟨rfl, hD⟩; have hW := hD.below; have HW2 := Aside0.mk hW; obtain ⟨ca2, cb2⟩ := cells_keep2 z1 hW; clear hW hD)
      | (go_at_call 62; refine (reefref19_Name.calls k s _ _ HNM.out).mono ?_; rintro e' w3 ⟨rfl, hD⟩; have hW := hD.below; have HW3 := Aside0.mk hW; clear hW hD))
    go_ret
    exact ⟨rfl, below_alloc (below_alloc (Below.refl _ _) _) _⟩
  | true =>
    cases zn with
    | false =>
      go_enter Try.func41, Try.ntmps41
      go_wp2_with (first
        | (go_at_call_of 61 off; refine (reefref19_upto.calls off _ _ HUO.out).mono ?_; rintro e' w1 ⟨rfl, hD⟩; have hW := hD.below; have HW1 := Aside0.mk hW; obtain ⟨ca, cb, z1⟩ := cells_keep hW; clear hW hD)
        | (go_at_call_of 61 num; refine (reefref19_upto.calls num _ _ HUN.out).mono ?_; rintro e' w1 ⟨rfl, hD⟩; have hW := hD.below; have HW1 := Aside0.mk hW; obtain ⟨ca, cb, z1⟩ := cells_keep hW; clear hW hD)
        | (go_at_call_of 61 num; refine (reefref19_upto.calls num _ _ HUN.out).mono ?_; rintro e' w2 ⟨rfl, hD⟩; have hW := hD.below; have HW2 := Aside0.mk hW; obtain ⟨ca2, cb2⟩ := cells_keep2 z1 hW; clear hW hD)
        | (go_at_call 62; refine (reefref19_Name.calls k s _ _ HNM.out).mono ?_; rintro e' w3 ⟨rfl, hD⟩; have hW := hD.below; have HW3 := Aside0.mk hW; clear hW hD))
      go_ret
      exact ⟨rfl, below_alloc (below_alloc (Below.refl _ _) _) _⟩
    | true =>
      cases zd with
      | false =>
        go_enter Try.func41, Try.ntmps41
        go_wp2_with (first
          | (go_at_call_of 61 off; refine (reefref19_upto.calls off _ _ HUO.out).mono ?_; rintro e' w1 ⟨rfl, hD⟩; have hW := hD.below; have HW1 := Aside0.mk hW; obtain ⟨ca, cb, z1⟩ := cells_keep hW; clear hW hD)
          | (go_at_call_of 61 num; refine (reefref19_upto.calls num _ _ HUN.out).mono ?_; rintro e' w1 ⟨rfl, hD⟩; have hW := hD.below; have HW1 := Aside0.mk hW; obtain ⟨ca, cb, z1⟩ := cells_keep hW; clear hW hD)
          | (go_at_call_of 61 num; refine (reefref19_upto.calls num _ _ HUN.out).mono ?_; rintro e' w2 ⟨rfl, hD⟩; have hW := hD.below; have HW2 := Aside0.mk hW; obtain ⟨ca2, cb2⟩ := cells_keep2 z1 hW; clear hW hD)
          | (go_at_call 62; refine (reefref19_Name.calls k s _ _ HNM.out).mono ?_; rintro e' w3 ⟨rfl, hD⟩; have hW := hD.below; have HW3 := Aside0.mk hW; clear hW hD))
        go_ret
        exact ⟨rfl, below_alloc (below_alloc (Below.refl _ _) _) _⟩
      | true =>
        go_enter Try.func41, Try.ntmps41
        go_wp2_with (first
          | (go_at_call_of 61 off; refine (reefref19_upto.calls off _ _ HUO.out).mono ?_; rintro e' w1 ⟨rfl, hD⟩; have hW := hD.below; have HW1 := Aside0.mk hW; obtain ⟨ca, cb, z1⟩ := cells_keep hW; clear hW hD)
          | (go_at_call_of 61 num; refine (reefref19_upto.calls num _ _ HUN.out).mono ?_; rintro e' w1 ⟨rfl, hD⟩; have hW := hD.below; have HW1 := Aside0.mk hW; obtain ⟨ca, cb, z1⟩ := cells_keep hW; clear hW hD)
          | (go_at_call_of 61 num; refine (reefref19_upto.calls num _ _ HUN.out).mono ?_; rintro e' w2 ⟨rfl, hD⟩; have hW := hD.below; have HW2 := Aside0.mk hW; obtain ⟨ca2, cb2⟩ := cells_keep2 z1 hW; clear hW hD)
          | (go_at_call 62; refine (reefref19_Name.calls k s _ _ HNM.out).mono ?_; rintro e' w3 ⟨rfl, hD⟩; have hW := hD.below; have HW3 := Aside0.mk hW; clear hW hD))
        go_ret
        exact ⟨rfl, below_step (below_alloc (below_alloc (Below.refl _ _) _) _) HW3.out⟩
set_option maxHeartbeats 8000000 in
set_option maxRecDepth 100000 in
theorem rop_8 (k : Nat) (nm : Bool) (s : ByteArray) (off num : Int) (data : ByteArray) (w : World) (hn : reefref19_Name.f k s = some nm) :
    Calls Try.prog 41 #[.agg #[.int .i64 8, .string s, .int .i64 off, .int .i64 num, .string data]] w fun e w' => e = .returned (.bool (((0 == off) && ((0 == num) && ((([] : List UInt8) == data.toList) && nm))))) ∧ Below w.heap.size w w' := by
  have hu := Try.underlying27
  have hz := Try.zeroValue27
  have HNM := Aside0.mk hn
  have HUO := Aside0.mk (upto_eq off)
  have HUN := Aside0.mk (upto_eq num)
  clear hn
  generalize upB off = uo at *
  generalize upB num = un at *
  generalize hzo : (0 == off) = zo at *
  generalize hzn : (0 == num) = zn at *
  generalize hzd : (([] : List UInt8) == data.toList) = zd at *
  cases zo with
  | false =>
    go_enter Try.func41, Try.ntmps41
    go_wp2_with (first
      | (go_at_call_of 61 off; refine (reefref19_upto.calls off _ _ HUO.out).mono ?_; rintro e' w1 ⟨rfl, hD⟩; have hW := hD.below; have HW1 := Aside0.mk hW; obtain ⟨ca, cb, z1⟩ := cells_keep hW; clear hW hD)
      | (go_at_call_of 61 num; refine (reefref19_upto.calls num _ _ HUN.out).mono ?_; rintro e' w1 ⟨rfl, hD⟩; have hW := hD.below; have HW1 := Aside0.mk hW; obtain ⟨ca, cb, z1⟩ := cells_keep hW; clear hW hD)
      | (go_at_call_of 61 num; refine (reefref19_upto.calls num _ _ HUN.out).mono ?_; rintro e' w2 ⟨rfl, hD⟩; have hW := hD.below; have HW2 := Aside0.mk hW; obtain ⟨ca2, cb2⟩ := cells_keep2 z1 hW; clear hW hD)
      | (go_at_call 62; refine (reefref19_Name.calls k s _ _ HNM.out).mono ?_; rintro e' w3 ⟨rfl, hD⟩; have hW := hD.below; have HW3 := Aside0.mk hW; clear hW hD))
    go_ret
    exact ⟨rfl, below_alloc (below_alloc (Below.refl _ _) _) _⟩
  | true =>
    cases zn with
    | false =>
      go_enter Try.func41, Try.ntmps41
      go_wp2_with (first
        | (go_at_call_of 61 off; refine (reefref19_upto.calls off _ _ HUO.out).mono ?_; rintro e' w1 ⟨rfl, hD⟩; have hW := hD.below; have HW1 := Aside0.mk hW; obtain ⟨ca, cb, z1⟩ := cells_keep hW; clear hW hD)
        | (go_at_call_of 61 num; refine (reefref19_upto.calls num _ _ HUN.out).mono ?_; rintro e' w1 ⟨rfl, hD⟩; have hW := hD.below; have HW1 := Aside0.mk hW; obtain ⟨ca, cb, z1⟩ := cells_keep hW; clear hW hD)
        | (go_at_call_of 61 num; refine (reefref19_upto.calls num _ _ HUN.out).mono ?_; rintro e' w2 ⟨rfl, hD⟩; have hW := hD.below; have HW2 := Aside0.mk hW; obtain ⟨ca2, cb2⟩ := cells_keep2 z1 hW; clear hW hD)
        | (go_at_call 62; refine (reefref19_Name.calls k s _ _ HNM.out).mono ?_; rintro e' w3 ⟨rfl, hD⟩; have hW := hD.below; have HW3 := Aside0.mk hW; clear hW hD))
      go_ret
      exact ⟨rfl, below_alloc (below_alloc (Below.refl _ _) _) _⟩
    | true =>
      cases zd with
      | false =>
        go_enter Try.func41, Try.ntmps41
        go_wp2_with (first
          | (go_at_call_of 61 off; refine (reefref19_upto.calls off _ _ HUO.out).mono ?_; rintro e' w1 ⟨rfl, hD⟩; have hW := hD.below; have HW1 := Aside0.mk hW; obtain ⟨ca, cb, z1⟩ := cells_keep hW; clear hW hD)
          | (go_at_call_of 61 num; refine (reefref19_upto.calls num _ _ HUN.out).mono ?_; rintro e' w1 ⟨rfl, hD⟩; have hW := hD.below; have HW1 := Aside0.mk hW; obtain ⟨ca, cb, z1⟩ := cells_keep hW; clear hW hD)
          | (go_at_call_of 61 num; refine (reefref19_upto.calls num _ _ HUN.out).mono ?_; rintro e' w2 ⟨rfl, hD⟩; have hW := hD.below; have HW2 := Aside0.mk hW; obtain ⟨ca2, cb2⟩ := cells_keep2 z1 hW; clear hW hD)
          | (go_at_call 62; refine (reefref19_Name.calls k s _ _ HNM.out).mono ?_; rintro e' w3 ⟨rfl, hD⟩; have hW := hD.below; have HW3 := Aside0.mk hW; clear hW hD))
        go_ret
        exact ⟨rfl, below_alloc (below_alloc (Below.refl _ _) _) _⟩
      | true =>
        go_enter Try.func41, Try.ntmps41
        go_wp2_with (first
          | (go_at_call_of 61 off; refine (reefref19_upto.calls off _ _ HUO.out).mono ?_; rintro e' w1 ⟨rfl, hD⟩; have hW := hD.below; have HW1 := Aside0.mk hW; obtain ⟨ca, cb, z1⟩ := cells_keep hW; clear hW hD)
          | (go_at_call_of 61 num; refine (reefref19_upto.calls num _ _ HUN.out).mono ?_; rintro e' w1 ⟨rfl, hD⟩; have hW := hD.below; have HW1 := Aside0.mk hW; obtain ⟨ca, cb, z1⟩ := cells_keep hW; clear hW hD)
          | (go_at_call_of 61 num; refine (reefref19_upto.calls num _ _ HUN.out).mono ?_; rintro e' w2 ⟨rfl, hD⟩; have hW := hD.below; have HW2 := Aside0.mk hW; obtain ⟨ca2, cb2⟩ := cells_keep2 z1 hW; clear hW hD)
          | (go_at_call 62; refine (reefref19_Name.calls k s _ _ HNM.out).mono ?_; rintro e' w3 ⟨rfl, hD⟩; have hW := hD.below; have HW3 := Aside0.mk hW; clear hW hD))
        go_ret
        exact ⟨rfl, below_step (below_alloc (below_alloc (Below.refl _ _) _) _) HW3.out⟩
set_option maxHeartbeats 8000000 in
set_option maxRecDepth 100000 in
theorem rop_9 (k : Nat) (nm : Bool) (s : ByteArray) (off num : Int) (data : ByteArray) (w : World) (hn : reefref19_Name.f k s = some nm) :
    Calls Try.prog 41 #[.agg #[.int .i64 9, .string s, .int .i64 off, .int .i64 num, .string data]] w fun e w' => e = .returned (.bool ((decide (num ≥ 0) && (decide (num < 4) && (decide (off ≥ 1) && (decide (off ≤ 1073741824) && ((([] : List UInt8) == data.toList) && nm))))))) ∧ Below w.heap.size w w' := by
  have hu := Try.underlying27
  have hz := Try.zeroValue27
  have HNM := Aside0.mk hn
  have HUO := Aside0.mk (upto_eq off)
  have HUN := Aside0.mk (upto_eq num)
  clear hn
  generalize upB off = uo at *
  generalize upB num = un at *
  generalize hn0 : decide (num ≥ 0) = n0 at *
  generalize hn4 : decide (num < 4) = n4 at *
  generalize ho1 : decide (off ≥ 1) = o1 at *
  generalize ho9 : decide (off ≤ 1073741824) = o9 at *
  generalize hzd : (([] : List UInt8) == data.toList) = zd at *
  cases n0 with
  | false =>
    go_enter Try.func41, Try.ntmps41
    go_wp2_with (first
      | (go_at_call_of 61 off; refine (reefref19_upto.calls off _ _ HUO.out).mono ?_; rintro e' w1 ⟨rfl, hD⟩; have hW := hD.below; have HW1 := Aside0.mk hW; obtain ⟨ca, cb, z1⟩ := cells_keep hW; clear hW hD)
      | (go_at_call_of 61 num; refine (reefref19_upto.calls num _ _ HUN.out).mono ?_; rintro e' w1 ⟨rfl, hD⟩; have hW := hD.below; have HW1 := Aside0.mk hW; obtain ⟨ca, cb, z1⟩ := cells_keep hW; clear hW hD)
      | (go_at_call_of 61 num; refine (reefref19_upto.calls num _ _ HUN.out).mono ?_; rintro e' w2 ⟨rfl, hD⟩; have hW := hD.below; have HW2 := Aside0.mk hW; obtain ⟨ca2, cb2⟩ := cells_keep2 z1 hW; clear hW hD)
      | (go_at_call 62; refine (reefref19_Name.calls k s _ _ HNM.out).mono ?_; rintro e' w3 ⟨rfl, hD⟩; have hW := hD.below; have HW3 := Aside0.mk hW; clear hW hD))
    go_ret
    exact ⟨rfl, below_alloc (below_alloc (Below.refl _ _) _) _⟩
  | true =>
    cases n4 with
    | false =>
      go_enter Try.func41, Try.ntmps41
      go_wp2_with (first
        | (go_at_call_of 61 off; refine (reefref19_upto.calls off _ _ HUO.out).mono ?_; rintro e' w1 ⟨rfl, hD⟩; have hW := hD.below; have HW1 := Aside0.mk hW; obtain ⟨ca, cb, z1⟩ := cells_keep hW; clear hW hD)
        | (go_at_call_of 61 num; refine (reefref19_upto.calls num _ _ HUN.out).mono ?_; rintro e' w1 ⟨rfl, hD⟩; have hW := hD.below; have HW1 := Aside0.mk hW; obtain ⟨ca, cb, z1⟩ := cells_keep hW; clear hW hD)
        | (go_at_call_of 61 num; refine (reefref19_upto.calls num _ _ HUN.out).mono ?_; rintro e' w2 ⟨rfl, hD⟩; have hW := hD.below; have HW2 := Aside0.mk hW; obtain ⟨ca2, cb2⟩ := cells_keep2 z1 hW; clear hW hD)
        | (go_at_call 62; refine (reefref19_Name.calls k s _ _ HNM.out).mono ?_; rintro e' w3 ⟨rfl, hD⟩; have hW := hD.below; have HW3 := Aside0.mk hW; clear hW hD))
      go_ret
      exact ⟨rfl, below_alloc (below_alloc (Below.refl _ _) _) _⟩
    | true =>
      cases o1 with
      | false =>
        go_enter Try.func41, Try.ntmps41
        go_wp2_with (first
          | (go_at_call_of 61 off; refine (reefref19_upto.calls off _ _ HUO.out).mono ?_; rintro e' w1 ⟨rfl, hD⟩; have hW := hD.below; have HW1 := Aside0.mk hW; obtain ⟨ca, cb, z1⟩ := cells_keep hW; clear hW hD)
          | (go_at_call_of 61 num; refine (reefref19_upto.calls num _ _ HUN.out).mono ?_; rintro e' w1 ⟨rfl, hD⟩; have hW := hD.below; have HW1 := Aside0.mk hW; obtain ⟨ca, cb, z1⟩ := cells_keep hW; clear hW hD)
          | (go_at_call_of 61 num; refine (reefref19_upto.calls num _ _ HUN.out).mono ?_; rintro e' w2 ⟨rfl, hD⟩; have hW := hD.below; have HW2 := Aside0.mk hW; obtain ⟨ca2, cb2⟩ := cells_keep2 z1 hW; clear hW hD)
          | (go_at_call 62; refine (reefref19_Name.calls k s _ _ HNM.out).mono ?_; rintro e' w3 ⟨rfl, hD⟩; have hW := hD.below; have HW3 := Aside0.mk hW; clear hW hD))
        go_ret
        exact ⟨rfl, below_alloc (below_alloc (Below.refl _ _) _) _⟩
      | true =>
        cases o9 with
        | false =>
          go_enter Try.func41, Try.ntmps41
          go_wp2_with (first
            | (go_at_call_of 61 off; refine (reefref19_upto.calls off _ _ HUO.out).mono ?_; rintro e' w1 ⟨rfl, hD⟩; have hW := hD.below; have HW1 := Aside0.mk hW; obtain ⟨ca, cb, z1⟩ := cells_keep hW; clear hW hD)
            | (go_at_call_of 61 num; refine (reefref19_upto.calls num _ _ HUN.out).mono ?_; rintro e' w1 ⟨rfl, hD⟩; have hW := hD.below; have HW1 := Aside0.mk hW; obtain ⟨ca, cb, z1⟩ := cells_keep hW; clear hW hD)
            | (go_at_call_of 61 num; refine (reefref19_upto.calls num _ _ HUN.out).mono ?_; rintro e' w2 ⟨rfl, hD⟩; have hW := hD.below; have HW2 := Aside0.mk hW; obtain ⟨ca2, cb2⟩ := cells_keep2 z1 hW; clear hW hD)
            | (go_at_call 62; refine (reefref19_Name.calls k s _ _ HNM.out).mono ?_; rintro e' w3 ⟨rfl, hD⟩; have hW := hD.below; have HW3 := Aside0.mk hW; clear hW hD))
          go_ret
          exact ⟨rfl, below_alloc (below_alloc (Below.refl _ _) _) _⟩
        | true =>
          cases zd with
          | false =>
            go_enter Try.func41, Try.ntmps41
            go_wp2_with (first
              | (go_at_call_of 61 off; refine (reefref19_upto.calls off _ _ HUO.out).mono ?_; rintro e' w1 ⟨rfl, hD⟩; have hW := hD.below; have HW1 := Aside0.mk hW; obtain ⟨ca, cb, z1⟩ := cells_keep hW; clear hW hD)
              | (go_at_call_of 61 num; refine (reefref19_upto.calls num _ _ HUN.out).mono ?_; rintro e' w1 ⟨rfl, hD⟩; have hW := hD.below; have HW1 := Aside0.mk hW; obtain ⟨ca, cb, z1⟩ := cells_keep hW; clear hW hD)
              | (go_at_call_of 61 num; refine (reefref19_upto.calls num _ _ HUN.out).mono ?_; rintro e' w2 ⟨rfl, hD⟩; have hW := hD.below; have HW2 := Aside0.mk hW; obtain ⟨ca2, cb2⟩ := cells_keep2 z1 hW; clear hW hD)
              | (go_at_call 62; refine (reefref19_Name.calls k s _ _ HNM.out).mono ?_; rintro e' w3 ⟨rfl, hD⟩; have hW := hD.below; have HW3 := Aside0.mk hW; clear hW hD))
            go_ret
            exact ⟨rfl, below_alloc (below_alloc (Below.refl _ _) _) _⟩
          | true =>
            go_enter Try.func41, Try.ntmps41
            go_wp2_with (first
              | (go_at_call_of 61 off; refine (reefref19_upto.calls off _ _ HUO.out).mono ?_; rintro e' w1 ⟨rfl, hD⟩; have hW := hD.below; have HW1 := Aside0.mk hW; obtain ⟨ca, cb, z1⟩ := cells_keep hW; clear hW hD)
              | (go_at_call_of 61 num; refine (reefref19_upto.calls num _ _ HUN.out).mono ?_; rintro e' w1 ⟨rfl, hD⟩; have hW := hD.below; have HW1 := Aside0.mk hW; obtain ⟨ca, cb, z1⟩ := cells_keep hW; clear hW hD)
              | (go_at_call_of 61 num; refine (reefref19_upto.calls num _ _ HUN.out).mono ?_; rintro e' w2 ⟨rfl, hD⟩; have hW := hD.below; have HW2 := Aside0.mk hW; obtain ⟨ca2, cb2⟩ := cells_keep2 z1 hW; clear hW hD)
              | (go_at_call 62; refine (reefref19_Name.calls k s _ _ HNM.out).mono ?_; rintro e' w3 ⟨rfl, hD⟩; have hW := hD.below; have HW3 := Aside0.mk hW; clear hW hD))
            go_ret
            exact ⟨rfl, below_step (below_alloc (below_alloc (Below.refl _ _) _) _) HW3.out⟩
set_option maxHeartbeats 8000000 in
set_option maxRecDepth 100000 in
theorem rop_10 (k : Nat) (nm : Bool) (s : ByteArray) (off num : Int) (data : ByteArray) (w : World) (hn : reefref19_Name.f k s = some nm) :
    Calls Try.prog 41 #[.agg #[.int .i64 10, .string s, .int .i64 off, .int .i64 num, .string data]] w fun e w' => e = .returned (.bool (s.toList.isEmpty && (off == 0 && (num == 0 && data.toList.isEmpty)))) ∧ Below w.heap.size w w' := by
  have hu := Try.underlying27
  have hz := Try.zeroValue27
  have HNM := Aside0.mk hn
  have HUO := Aside0.mk (upto_eq off)
  have HUN := Aside0.mk (upto_eq num)
  clear hn
  generalize upB off = uo at *
  generalize upB num = un at *
  go_enter Try.func41, Try.ntmps41
  go_wp2_with (first
    | (go_at_call_of 61 off; refine (reefref19_upto.calls off _ _ HUO.out).mono ?_; rintro e' w1 ⟨rfl, hD⟩; have hW := hD.below; have HW1 := Aside0.mk hW; obtain ⟨ca, cb, z1⟩ := cells_keep hW; clear hW hD)
    | (go_at_call_of 61 num; refine (reefref19_upto.calls num _ _ HUN.out).mono ?_; rintro e' w1 ⟨rfl, hD⟩; have hW := hD.below; have HW1 := Aside0.mk hW; obtain ⟨ca, cb, z1⟩ := cells_keep hW; clear hW hD)
    | (go_at_call_of 61 num; refine (reefref19_upto.calls num _ _ HUN.out).mono ?_; rintro e' w2 ⟨rfl, hD⟩; have hW := hD.below; have HW2 := Aside0.mk hW; obtain ⟨ca2, cb2⟩ := cells_keep2 z1 hW; clear hW hD)
    | (go_at_call 62; refine (reefref19_Name.calls k s _ _ HNM.out).mono ?_; rintro e' w3 ⟨rfl, hD⟩; have hW := hD.below; have HW3 := Aside0.mk hW; clear hW hD))
  go_ret
  refine ⟨?_, below_alloc (below_alloc (Below.refl _ _) _) _⟩
  rfl
set_option maxHeartbeats 8000000 in
set_option maxRecDepth 100000 in
theorem rop_other (k : Nat) (nm : Bool) (s : ByteArray) (off num : Int) (data : ByteArray) (w : World) (hn : reefref19_Name.f k s = some nm) (kd : Int) (h1 : (kd == 1) = false) (h2 : (kd == 2) = false) (h3 : (kd == 3) = false) (h4 : (kd == 4) = false) (h5 : (kd == 5) = false) (h6 : (kd == 6) = false) (h7 : (kd == 7) = false) (h8 : (kd == 8) = false) (h9 : (kd == 9) = false) (h10 : (kd == 10) = false) :
    Calls Try.prog 41 #[.agg #[.int .i64 kd, .string s, .int .i64 off, .int .i64 num, .string data]] w fun e w' => e = .returned (.bool (false)) ∧ Below w.heap.size w w' := by
  have hu := Try.underlying27
  have hz := Try.zeroValue27
  have HNM := Aside0.mk hn
  have HUO := Aside0.mk (upto_eq off)
  have HUN := Aside0.mk (upto_eq num)
  clear hn
  generalize upB off = uo at *
  generalize upB num = un at *
  go_enter Try.func41, Try.ntmps41
  go_wp2_with (first
    | (go_at_call_of 61 off; refine (reefref19_upto.calls off _ _ HUO.out).mono ?_; rintro e' w1 ⟨rfl, hD⟩; have hW := hD.below; have HW1 := Aside0.mk hW; obtain ⟨ca, cb, z1⟩ := cells_keep hW; clear hW hD)
    | (go_at_call_of 61 num; refine (reefref19_upto.calls num _ _ HUN.out).mono ?_; rintro e' w1 ⟨rfl, hD⟩; have hW := hD.below; have HW1 := Aside0.mk hW; obtain ⟨ca, cb, z1⟩ := cells_keep hW; clear hW hD)
    | (go_at_call_of 61 num; refine (reefref19_upto.calls num _ _ HUN.out).mono ?_; rintro e' w2 ⟨rfl, hD⟩; have hW := hD.below; have HW2 := Aside0.mk hW; obtain ⟨ca2, cb2⟩ := cells_keep2 z1 hW; clear hW hD)
    | (go_at_call 62; refine (reefref19_Name.calls k s _ _ HNM.out).mono ?_; rintro e' w3 ⟨rfl, hD⟩; have hW := hD.below; have HW3 := Aside0.mk hW; clear hW hD))
  go_ret
  exact ⟨rfl, below_alloc (below_alloc (Below.refl _ _) _) _⟩
def opV (kd : Int) (nm : Bool) (s : ByteArray) (off num : Int) (data : ByteArray) : Bool :=
  if kd = 1 then (upB off && (decide (data.size ≤ 64) && ((0 == num) && nm))) else
  if kd = 2 then (upB off && (upB num && ((([] : List UInt8) == data.toList) && nm))) else
  if kd = 5 then (upB off && (upB num && ((([] : List UInt8) == data.toList) && nm))) else
  if kd = 3 then (upB num && ((0 == off) && ((([] : List UInt8) == data.toList) && nm))) else
  if kd = 9 then (decide (num ≥ 0) && (decide (num < 4) && (decide (off ≥ 1) && (decide (off ≤ 1073741824) && ((([] : List UInt8) == data.toList) && nm))))) else
  if kd = 4 then ((0 == off) && ((0 == num) && ((([] : List UInt8) == data.toList) && nm))) else
  if kd = 6 then ((0 == off) && ((0 == num) && ((([] : List UInt8) == data.toList) && nm))) else
  if kd = 7 then ((0 == off) && ((0 == num) && ((([] : List UInt8) == data.toList) && nm))) else
  if kd = 8 then ((0 == off) && ((0 == num) && ((([] : List UInt8) == data.toList) && nm))) else
  if kd = 10 then (s.toList.isEmpty && (off == 0 && (num == 0 && data.toList.isEmpty))) else false
def reefref19_Op.f (k : Nat) (a0_0 : Int) (a0_1 : ByteArray) (a0_2 : Int) (a0_3 : Int) (a0_4 : ByteArray) : Option Bool := (reefref19_Name.f k a0_1).bind fun nm => some (opV a0_0 nm a0_1 a0_2 a0_3 a0_4)
theorem reefref19_Op.calls (k : Nat) (a0_0 : Int) (a0_1 : ByteArray) (a0_2 : Int) (a0_3 : Int) (a0_4 : ByteArray) (r : Bool) (w : World) (h : reefref19_Op.f k a0_0 a0_1 a0_2 a0_3 a0_4 = some r) :
    Calls Try.prog 41 #[.agg #[.int .i64 a0_0, .string a0_1, .int .i64 a0_2, .int .i64 a0_3, .string a0_4]] w fun e w' => e = .returned (.bool r) ∧ Below w.heap.size w w' := by
  unfold reefref19_Op.f at h
  cases hn : reefref19_Name.f k a0_1 with
  | none => rw [hn] at h; cases h
  | some nm =>
    rw [hn, Option.bind_some] at h
    obtain rfl := Option.some.inj h
    clear h
    by_cases h1 : a0_0 = 1
    · subst h1; exact rop_1 k nm a0_1 a0_2 a0_3 a0_4 w hn
    by_cases h2 : a0_0 = 2
    · subst h2; exact rop_2 k nm a0_1 a0_2 a0_3 a0_4 w hn
    by_cases h5 : a0_0 = 5
    · subst h5; exact rop_5 k nm a0_1 a0_2 a0_3 a0_4 w hn
    by_cases h3 : a0_0 = 3
    · subst h3; exact rop_3 k nm a0_1 a0_2 a0_3 a0_4 w hn
    by_cases h9 : a0_0 = 9
    · subst h9; exact rop_9 k nm a0_1 a0_2 a0_3 a0_4 w hn
    by_cases h4 : a0_0 = 4
    · subst h4; exact rop_4 k nm a0_1 a0_2 a0_3 a0_4 w hn
    by_cases h6 : a0_0 = 6
    · subst h6; exact rop_6 k nm a0_1 a0_2 a0_3 a0_4 w hn
    by_cases h7 : a0_0 = 7
    · subst h7; exact rop_7 k nm a0_1 a0_2 a0_3 a0_4 w hn
    by_cases h8 : a0_0 = 8
    · subst h8; exact rop_8 k nm a0_1 a0_2 a0_3 a0_4 w hn
    by_cases h10 : a0_0 = 10
    · subst h10; exact rop_10 k nm a0_1 a0_2 a0_3 a0_4 w hn
    have e : opV a0_0 nm a0_1 a0_2 a0_3 a0_4 = false := by unfold opV; rw [if_neg h1, if_neg h2, if_neg h5, if_neg h3, if_neg h9, if_neg h4, if_neg h6, if_neg h7, if_neg h8, if_neg h10]
    rw [e]
    exact rop_other k nm a0_1 a0_2 a0_3 a0_4 w hn a0_0 (beq_eq_false_iff_ne.2 h1) (beq_eq_false_iff_ne.2 h2) (beq_eq_false_iff_ne.2 h3) (beq_eq_false_iff_ne.2 h4) (beq_eq_false_iff_ne.2 h5) (beq_eq_false_iff_ne.2 h6) (beq_eq_false_iff_ne.2 h7) (beq_eq_false_iff_ne.2 h8) (beq_eq_false_iff_ne.2 h9) (beq_eq_false_iff_ne.2 h10)
end Go.Proofs.Ytbdciklcckjknaa.P
