/- Texts of this claim, merged by pack.py: PObjectOp -/
import Derived.Deep.RegionWith
import Derived.Test.YtbdciklcckjknaaZT01
namespace Go.Proofs.Ytbdciklcckjknaa.P
open Go.RowKit Go.Proofs.YtbdciklcckjknaaW.PrintWords Go.Proofs.YtbdciklcckjknaaW.PrintLast Go.Proofs.YtbdciklcckjknaaW.PrintMore
attribute [local go_sem] max2_int min2_int max_two min_two
set_option linter.unusedVariables false
set_option linter.unusedSimpArgs false
def smB (x : Int) : Bool := decide (0 ≤ x) && decide (x ≤ 64)
theorem small_eq1 (x : Int) : object_small.f x = some (smB x) := by
  unfold object_small.f smB
  by_cases h : x ≥ 0
  · rw [if_pos h, decide_eq_true (show 0 ≤ x from h), Bool.true_and]
  · rw [if_neg h, decide_eq_false (show ¬ 0 ≤ x from h), Bool.false_and]
attribute [local go_sem high] eqA27
set_option maxHeartbeats 8000000 in
set_option maxRecDepth 100000 in
theorem oop_1 (k : Nat) (nm : Bool) (s : ByteArray) (off num : Int) (data : ByteArray) (w : World) (hn : object_Name.f k s = some nm) :
    Calls Try.prog 38 #[.agg #[.int .i64 1, .string s, .int .i64 off, .int .i64 num, .string data]] w fun e w' => e = .returned (.bool ((nm && (smB off && (decide (data.size ≤ 64) && (0 == num)))))) ∧ Below w.heap.size w w' := by
  have hu := Try.underlying27
  have hz := Try.zeroValue27
  have HNM := Aside0.mk hn
  have HUO := Aside0.mk (small_eq1 off)
  have HUN := Aside0.mk (small_eq1 num)
  clear hn
  generalize smB off = uo at *
  generalize smB num = un at *
  have hd2 : decide ((data.size : Int) ≤ 64) = decide (data.size ≤ 64) := by rw [Bool.eq_iff_iff, decide_eq_true_iff, decide_eq_true_iff]; omega
  generalize hdd : decide (data.size ≤ 64) = dd at *
  generalize hzn : (0 == num) = zn at *
  cases nm with
  | false =>
    go_enter Try.func38, Try.ntmps38
    go_wp2_with (first
      | (go_at_call_of 60 off; refine (object_small.calls off _ _ HUO.out).mono ?_; rintro e' w1 ⟨rfl, hD⟩; obtain ⟨n1, rfl⟩ := hD.out; clear hD)
      | (go_at_call_of 60 num; refine (object_small.calls num _ _ HUN.out).mono ?_; rintro e' w2 ⟨rfl, hD⟩; obtain ⟨n2, rfl⟩ := hD.out; clear hD)
      | (go_at_call 59; refine (object_Name.calls k s _ _ HNM.out).mono ?_; rintro e' w3 ⟨rfl, hD⟩; obtain ⟨n3, rfl⟩ := hD.out; clear hD))
    go_region
    go_wp2_with (first
      | (go_at_call_of 60 off; refine (object_small.calls off _ _ HUO.out).mono ?_; rintro e' w1 ⟨rfl, hD⟩; obtain ⟨n1, rfl⟩ := hD.out; clear hD)
      | (go_at_call_of 60 num; refine (object_small.calls num _ _ HUN.out).mono ?_; rintro e' w2 ⟨rfl, hD⟩; obtain ⟨n2, rfl⟩ := hD.out; clear hD)
      | (go_at_call 59; refine (object_Name.calls k s _ _ HNM.out).mono ?_; rintro e' w3 ⟨rfl, hD⟩; obtain ⟨n3, rfl⟩ := hD.out; clear hD))
    go_ret
    refine ⟨rfl, ?_⟩
    repeat (first | exact Below.refl _ _ | refine pw_below_drewN ?_ _ | refine Below.drew ?_ | refine below_alloc ?_ _ | refine Below.setCell ?_ (by show w.heap.size ≤ w.heap.size + 1; omega) _)
  | true =>
    cases uo with
    | false =>
      go_enter Try.func38, Try.ntmps38
      go_wp2_with (first
        | (go_at_call_of 60 off; refine (object_small.calls off _ _ HUO.out).mono ?_; rintro e' w1 ⟨rfl, hD⟩; obtain ⟨n1, rfl⟩ := hD.out; clear hD)
        | (go_at_call_of 60 num; refine (object_small.calls num _ _ HUN.out).mono ?_; rintro e' w2 ⟨rfl, hD⟩; obtain ⟨n2, rfl⟩ := hD.out; clear hD)
        | (go_at_call 59; refine (object_Name.calls k s _ _ HNM.out).mono ?_; rintro e' w3 ⟨rfl, hD⟩; obtain ⟨n3, rfl⟩ := hD.out; clear hD))
      go_region
      go_wp2_with (first
        | (go_at_call_of 60 off; refine (object_small.calls off _ _ HUO.out).mono ?_; rintro e' w1 ⟨rfl, hD⟩; obtain ⟨n1, rfl⟩ := hD.out; clear hD)
        | (go_at_call_of 60 num; refine (object_small.calls num _ _ HUN.out).mono ?_; rintro e' w2 ⟨rfl, hD⟩; obtain ⟨n2, rfl⟩ := hD.out; clear hD)
        | (go_at_call 59; refine (object_Name.calls k s _ _ HNM.out).mono ?_; rintro e' w3 ⟨rfl, hD⟩; obtain ⟨n3, rfl⟩ := hD.out; clear hD))
      go_ret
      refine ⟨rfl, ?_⟩
      repeat (first | exact Below.refl _ _ | refine pw_below_drewN ?_ _ | refine Below.drew ?_ | refine below_alloc ?_ _ | refine Below.setCell ?_ (by show w.heap.size ≤ w.heap.size + 1; omega) _)
    | true =>
      cases dd with
      | false =>
        go_enter Try.func38, Try.ntmps38
        go_wp2_with (first
          | (go_at_call_of 60 off; refine (object_small.calls off _ _ HUO.out).mono ?_; rintro e' w1 ⟨rfl, hD⟩; obtain ⟨n1, rfl⟩ := hD.out; clear hD)
          | (go_at_call_of 60 num; refine (object_small.calls num _ _ HUN.out).mono ?_; rintro e' w2 ⟨rfl, hD⟩; obtain ⟨n2, rfl⟩ := hD.out; clear hD)
          | (go_at_call 59; refine (object_Name.calls k s _ _ HNM.out).mono ?_; rintro e' w3 ⟨rfl, hD⟩; obtain ⟨n3, rfl⟩ := hD.out; clear hD))
        go_region
        go_wp2_with (first
          | (go_at_call_of 60 off; refine (object_small.calls off _ _ HUO.out).mono ?_; rintro e' w1 ⟨rfl, hD⟩; obtain ⟨n1, rfl⟩ := hD.out; clear hD)
          | (go_at_call_of 60 num; refine (object_small.calls num _ _ HUN.out).mono ?_; rintro e' w2 ⟨rfl, hD⟩; obtain ⟨n2, rfl⟩ := hD.out; clear hD)
          | (go_at_call 59; refine (object_Name.calls k s _ _ HNM.out).mono ?_; rintro e' w3 ⟨rfl, hD⟩; obtain ⟨n3, rfl⟩ := hD.out; clear hD))
        go_ret
        refine ⟨rfl, ?_⟩
        repeat (first | exact Below.refl _ _ | refine pw_below_drewN ?_ _ | refine Below.drew ?_ | refine below_alloc ?_ _ | refine Below.setCell ?_ (by show w.heap.size ≤ w.heap.size + 1; omega) _)
      | true =>
        cases zn with
        | false =>
          go_enter Try.func38, Try.ntmps38
          go_wp2_with (first
            | (go_at_call_of 60 off; refine (object_small.calls off _ _ HUO.out).mono ?_; rintro e' w1 ⟨rfl, hD⟩; obtain ⟨n1, rfl⟩ := hD.out; clear hD)
            | (go_at_call_of 60 num; refine (object_small.calls num _ _ HUN.out).mono ?_; rintro e' w2 ⟨rfl, hD⟩; obtain ⟨n2, rfl⟩ := hD.out; clear hD)
            | (go_at_call 59; refine (object_Name.calls k s _ _ HNM.out).mono ?_; rintro e' w3 ⟨rfl, hD⟩; obtain ⟨n3, rfl⟩ := hD.out; clear hD))
          go_region
          go_wp2_with (first
            | (go_at_call_of 60 off; refine (object_small.calls off _ _ HUO.out).mono ?_; rintro e' w1 ⟨rfl, hD⟩; obtain ⟨n1, rfl⟩ := hD.out; clear hD)
            | (go_at_call_of 60 num; refine (object_small.calls num _ _ HUN.out).mono ?_; rintro e' w2 ⟨rfl, hD⟩; obtain ⟨n2, rfl⟩ := hD.out; clear hD)
            | (go_at_call 59; refine (object_Name.calls k s _ _ HNM.out).mono ?_; rintro e' w3 ⟨rfl, hD⟩; obtain ⟨n3, rfl⟩ := hD.out; clear hD))
          go_ret
          refine ⟨rfl, ?_⟩
          repeat (first | exact Below.refl _ _ | refine pw_below_drewN ?_ _ | refine Below.drew ?_ | refine below_alloc ?_ _ | refine Below.setCell ?_ (by show w.heap.size ≤ w.heap.size + 1; omega) _)
        | true =>
          go_enter Try.func38, Try.ntmps38
          go_wp2_with (first
            | (go_at_call_of 60 off; refine (object_small.calls off _ _ HUO.out).mono ?_; rintro e' w1 ⟨rfl, hD⟩; obtain ⟨n1, rfl⟩ := hD.out; clear hD)
            | (go_at_call_of 60 num; refine (object_small.calls num _ _ HUN.out).mono ?_; rintro e' w2 ⟨rfl, hD⟩; obtain ⟨n2, rfl⟩ := hD.out; clear hD)
            | (go_at_call 59; refine (object_Name.calls k s _ _ HNM.out).mono ?_; rintro e' w3 ⟨rfl, hD⟩; obtain ⟨n3, rfl⟩ := hD.out; clear hD))
          go_region
          go_wp2_with (first
            | (go_at_call_of 60 off; refine (object_small.calls off _ _ HUO.out).mono ?_; rintro e' w1 ⟨rfl, hD⟩; obtain ⟨n1, rfl⟩ := hD.out; clear hD)
            | (go_at_call_of 60 num; refine (object_small.calls num _ _ HUN.out).mono ?_; rintro e' w2 ⟨rfl, hD⟩; obtain ⟨n2, rfl⟩ := hD.out; clear hD)
            | (go_at_call 59; refine (object_Name.calls k s _ _ HNM.out).mono ?_; rintro e' w3 ⟨rfl, hD⟩; obtain ⟨n3, rfl⟩ := hD.out; clear hD))
          go_ret
          refine ⟨rfl, ?_⟩
          repeat (first | exact Below.refl _ _ | refine pw_below_drewN ?_ _ | refine Below.drew ?_ | refine below_alloc ?_ _ | refine Below.setCell ?_ (by show w.heap.size ≤ w.heap.size + 1; omega) _)
set_option maxHeartbeats 8000000 in
set_option maxRecDepth 100000 in
theorem oop_10 (k : Nat) (nm : Bool) (s : ByteArray) (off num : Int) (data : ByteArray) (w : World) (hn : object_Name.f k s = some nm) :
    Calls Try.prog 38 #[.agg #[.int .i64 10, .string s, .int .i64 off, .int .i64 num, .string data]] w fun e w' => e = .returned (.bool ((s.toList.isEmpty && ((0 == off) && ((0 == num) && (([] : List UInt8) == data.toList)))))) ∧ Below w.heap.size w w' := by
  have hu := Try.underlying27
  have hz := Try.zeroValue27
  have HNM := Aside0.mk hn
  have HUO := Aside0.mk (small_eq1 off)
  have HUN := Aside0.mk (small_eq1 num)
  clear hn
  generalize smB off = uo at *
  generalize smB num = un at *
  generalize hse : s.toList.isEmpty = se at *
  generalize hzo : (0 == off) = zo at *
  generalize hzn : (0 == num) = zn at *
  generalize hzd : (([] : List UInt8) == data.toList) = zd at *
  cases se with
  | false =>
    go_enter Try.func38, Try.ntmps38
    go_wp2_with (first
      | (go_at_call_of 60 off; refine (object_small.calls off _ _ HUO.out).mono ?_; rintro e' w1 ⟨rfl, hD⟩; obtain ⟨n1, rfl⟩ := hD.out; clear hD)
      | (go_at_call_of 60 num; refine (object_small.calls num _ _ HUN.out).mono ?_; rintro e' w2 ⟨rfl, hD⟩; obtain ⟨n2, rfl⟩ := hD.out; clear hD)
      | (go_at_call 59; refine (object_Name.calls k s _ _ HNM.out).mono ?_; rintro e' w3 ⟨rfl, hD⟩; obtain ⟨n3, rfl⟩ := hD.out; clear hD))
    go_ret
    refine ⟨rfl, ?_⟩
    repeat (first | exact Below.refl _ _ | refine pw_below_drewN ?_ _ | refine Below.drew ?_ | refine below_alloc ?_ _ | refine Below.setCell ?_ (by show w.heap.size ≤ w.heap.size + 1; omega) _)
  | true =>
    cases zo with
    | false =>
      go_enter Try.func38, Try.ntmps38
      go_wp2_with (first
        | (go_at_call_of 60 off; refine (object_small.calls off _ _ HUO.out).mono ?_; rintro e' w1 ⟨rfl, hD⟩; obtain ⟨n1, rfl⟩ := hD.out; clear hD)
        | (go_at_call_of 60 num; refine (object_small.calls num _ _ HUN.out).mono ?_; rintro e' w2 ⟨rfl, hD⟩; obtain ⟨n2, rfl⟩ := hD.out; clear hD)
        | (go_at_call 59; refine (object_Name.calls k s _ _ HNM.out).mono ?_; rintro e' w3 ⟨rfl, hD⟩; obtain ⟨n3, rfl⟩ := hD.out; clear hD))
      go_ret
      refine ⟨rfl, ?_⟩
      repeat (first | exact Below.refl _ _ | refine pw_below_drewN ?_ _ | refine Below.drew ?_ | refine below_alloc ?_ _ | refine Below.setCell ?_ (by show w.heap.size ≤ w.heap.size + 1; omega) _)
    | true =>
      cases zn with
      | false =>
        go_enter Try.func38, Try.ntmps38
        go_wp2_with (first
          | (go_at_call_of 60 off; refine (object_small.calls off _ _ HUO.out).mono ?_; rintro e' w1 ⟨rfl, hD⟩; obtain ⟨n1, rfl⟩ := hD.out; clear hD)
          | (go_at_call_of 60 num; refine (object_small.calls num _ _ HUN.out).mono ?_; rintro e' w2 ⟨rfl, hD⟩; obtain ⟨n2, rfl⟩ := hD.out; clear hD)
          | (go_at_call 59; refine (object_Name.calls k s _ _ HNM.out).mono ?_; rintro e' w3 ⟨rfl, hD⟩; obtain ⟨n3, rfl⟩ := hD.out; clear hD))
        go_ret
        refine ⟨rfl, ?_⟩
        repeat (first | exact Below.refl _ _ | refine pw_below_drewN ?_ _ | refine Below.drew ?_ | refine below_alloc ?_ _ | refine Below.setCell ?_ (by show w.heap.size ≤ w.heap.size + 1; omega) _)
      | true =>
        cases zd with
        | false =>
          go_enter Try.func38, Try.ntmps38
          go_wp2_with (first
            | (go_at_call_of 60 off; refine (object_small.calls off _ _ HUO.out).mono ?_; rintro e' w1 ⟨rfl, hD⟩; obtain ⟨n1, rfl⟩ := hD.out; clear hD)
            | (go_at_call_of 60 num; refine (object_small.calls num _ _ HUN.out).mono ?_; rintro e' w2 ⟨rfl, hD⟩; obtain ⟨n2, rfl⟩ := hD.out; clear hD)
            | (go_at_call 59; refine (object_Name.calls k s _ _ HNM.out).mono ?_; rintro e' w3 ⟨rfl, hD⟩; obtain ⟨n3, rfl⟩ := hD.out; clear hD))
          go_ret
          refine ⟨rfl, ?_⟩
          repeat (first | exact Below.refl _ _ | refine pw_below_drewN ?_ _ | refine Below.drew ?_ | refine below_alloc ?_ _ | refine Below.setCell ?_ (by show w.heap.size ≤ w.heap.size + 1; omega) _)
        | true =>
          go_enter Try.func38, Try.ntmps38
          go_wp2_with (first
            | (go_at_call_of 60 off; refine (object_small.calls off _ _ HUO.out).mono ?_; rintro e' w1 ⟨rfl, hD⟩; obtain ⟨n1, rfl⟩ := hD.out; clear hD)
            | (go_at_call_of 60 num; refine (object_small.calls num _ _ HUN.out).mono ?_; rintro e' w2 ⟨rfl, hD⟩; obtain ⟨n2, rfl⟩ := hD.out; clear hD)
            | (go_at_call 59; refine (object_Name.calls k s _ _ HNM.out).mono ?_; rintro e' w3 ⟨rfl, hD⟩; obtain ⟨n3, rfl⟩ := hD.out; clear hD))
          go_ret
          refine ⟨rfl, ?_⟩
          repeat (first | exact Below.refl _ _ | refine pw_below_drewN ?_ _ | refine Below.drew ?_ | refine below_alloc ?_ _ | refine Below.setCell ?_ (by show w.heap.size ≤ w.heap.size + 1; omega) _)
set_option maxHeartbeats 8000000 in
set_option maxRecDepth 100000 in
theorem oop_2 (k : Nat) (nm : Bool) (s : ByteArray) (off num : Int) (data : ByteArray) (w : World) (hn : object_Name.f k s = some nm) :
    Calls Try.prog 38 #[.agg #[.int .i64 2, .string s, .int .i64 off, .int .i64 num, .string data]] w fun e w' => e = .returned (.bool ((nm && (smB off && (smB num && (([] : List UInt8) == data.toList)))))) ∧ Below w.heap.size w w' := by
  have hu := Try.underlying27
  have hz := Try.zeroValue27
  have HNM := Aside0.mk hn
  have HUO := Aside0.mk (small_eq1 off)
  have HUN := Aside0.mk (small_eq1 num)
  clear hn
  generalize smB off = uo at *
  generalize smB num = un at *
  generalize hzd : (([] : List UInt8) == data.toList) = zd at *
  cases nm with
  | false =>
    go_enter Try.func38, Try.ntmps38
    go_wp2_with (first
      | (go_at_call_of 60 off; refine (object_small.calls off _ _ HUO.out).mono ?_; rintro e' w1 ⟨rfl, hD⟩; obtain ⟨n1, rfl⟩ := hD.out; clear hD)
      | (go_at_call_of 60 num; refine (object_small.calls num _ _ HUN.out).mono ?_; rintro e' w2 ⟨rfl, hD⟩; obtain ⟨n2, rfl⟩ := hD.out; clear hD)
      | (go_at_call 59; refine (object_Name.calls k s _ _ HNM.out).mono ?_; rintro e' w3 ⟨rfl, hD⟩; obtain ⟨n3, rfl⟩ := hD.out; clear hD))
    go_region
    go_wp2_with (first
      | (go_at_call_of 60 off; refine (object_small.calls off _ _ HUO.out).mono ?_; rintro e' w1 ⟨rfl, hD⟩; obtain ⟨n1, rfl⟩ := hD.out; clear hD)
      | (go_at_call_of 60 num; refine (object_small.calls num _ _ HUN.out).mono ?_; rintro e' w2 ⟨rfl, hD⟩; obtain ⟨n2, rfl⟩ := hD.out; clear hD)
      | (go_at_call 59; refine (object_Name.calls k s _ _ HNM.out).mono ?_; rintro e' w3 ⟨rfl, hD⟩; obtain ⟨n3, rfl⟩ := hD.out; clear hD))
    go_ret
    refine ⟨rfl, ?_⟩
    repeat (first | exact Below.refl _ _ | refine pw_below_drewN ?_ _ | refine Below.drew ?_ | refine below_alloc ?_ _ | refine Below.setCell ?_ (by show w.heap.size ≤ w.heap.size + 1; omega) _)
  | true =>
    cases uo with
    | false =>
      go_enter Try.func38, Try.ntmps38
      go_wp2_with (first
        | (go_at_call_of 60 off; refine (object_small.calls off _ _ HUO.out).mono ?_; rintro e' w1 ⟨rfl, hD⟩; obtain ⟨n1, rfl⟩ := hD.out; clear hD)
        | (go_at_call_of 60 num; refine (object_small.calls num _ _ HUN.out).mono ?_; rintro e' w2 ⟨rfl, hD⟩; obtain ⟨n2, rfl⟩ := hD.out; clear hD)
        | (go_at_call 59; refine (object_Name.calls k s _ _ HNM.out).mono ?_; rintro e' w3 ⟨rfl, hD⟩; obtain ⟨n3, rfl⟩ := hD.out; clear hD))
      go_region
      go_wp2_with (first
        | (go_at_call_of 60 off; refine (object_small.calls off _ _ HUO.out).mono ?_; rintro e' w1 ⟨rfl, hD⟩; obtain ⟨n1, rfl⟩ := hD.out; clear hD)
        | (go_at_call_of 60 num; refine (object_small.calls num _ _ HUN.out).mono ?_; rintro e' w2 ⟨rfl, hD⟩; obtain ⟨n2, rfl⟩ := hD.out; clear hD)
        | (go_at_call 59; refine (object_Name.calls k s _ _ HNM.out).mono ?_; rintro e' w3 ⟨rfl, hD⟩; obtain ⟨n3, rfl⟩ := hD.out; clear hD))
      go_ret
      refine ⟨rfl, ?_⟩
      repeat (first | exact Below.refl _ _ | refine pw_below_drewN ?_ _ | refine Below.drew ?_ | refine below_alloc ?_ _ | refine Below.setCell ?_ (by show w.heap.size ≤ w.heap.size + 1; omega) _)
    | true =>
      cases un with
      | false =>
        go_enter Try.func38, Try.ntmps38
        go_wp2_with (first
          | (go_at_call_of 60 off; refine (object_small.calls off _ _ HUO.out).mono ?_; rintro e' w1 ⟨rfl, hD⟩; obtain ⟨n1, rfl⟩ := hD.out; clear hD)
          | (go_at_call_of 60 num; refine (object_small.calls num _ _ HUN.out).mono ?_; rintro e' w2 ⟨rfl, hD⟩; obtain ⟨n2, rfl⟩ := hD.out; clear hD)
          | (go_at_call 59; refine (object_Name.calls k s _ _ HNM.out).mono ?_; rintro e' w3 ⟨rfl, hD⟩; obtain ⟨n3, rfl⟩ := hD.out; clear hD))
        go_region
        go_wp2_with (first
          | (go_at_call_of 60 off; refine (object_small.calls off _ _ HUO.out).mono ?_; rintro e' w1 ⟨rfl, hD⟩; obtain ⟨n1, rfl⟩ := hD.out; clear hD)
          | (go_at_call_of 60 num; refine (object_small.calls num _ _ HUN.out).mono ?_; rintro e' w2 ⟨rfl, hD⟩; obtain ⟨n2, rfl⟩ := hD.out; clear hD)
          | (go_at_call 59; refine (object_Name.calls k s _ _ HNM.out).mono ?_; rintro e' w3 ⟨rfl, hD⟩; obtain ⟨n3, rfl⟩ := hD.out; clear hD))
        go_ret
        refine ⟨rfl, ?_⟩
        repeat (first | exact Below.refl _ _ | refine pw_below_drewN ?_ _ | refine Below.drew ?_ | refine below_alloc ?_ _ | refine Below.setCell ?_ (by show w.heap.size ≤ w.heap.size + 1; omega) _)
      | true =>
        cases zd with
        | false =>
          go_enter Try.func38, Try.ntmps38
          go_wp2_with (first
            | (go_at_call_of 60 off; refine (object_small.calls off _ _ HUO.out).mono ?_; rintro e' w1 ⟨rfl, hD⟩; obtain ⟨n1, rfl⟩ := hD.out; clear hD)
            | (go_at_call_of 60 num; refine (object_small.calls num _ _ HUN.out).mono ?_; rintro e' w2 ⟨rfl, hD⟩; obtain ⟨n2, rfl⟩ := hD.out; clear hD)
            | (go_at_call 59; refine (object_Name.calls k s _ _ HNM.out).mono ?_; rintro e' w3 ⟨rfl, hD⟩; obtain ⟨n3, rfl⟩ := hD.out; clear hD))
          go_region
          go_wp2_with (first
            | (go_at_call_of 60 off; refine (object_small.calls off _ _ HUO.out).mono ?_; rintro e' w1 ⟨rfl, hD⟩; obtain ⟨n1, rfl⟩ := hD.out; clear hD)
            | (go_at_call_of 60 num; refine (object_small.calls num _ _ HUN.out).mono ?_; rintro e' w2 ⟨rfl, hD⟩; obtain ⟨n2, rfl⟩ := hD.out; clear hD)
            | (go_at_call 59; refine (object_Name.calls k s _ _ HNM.out).mono ?_; rintro e' w3 ⟨rfl, hD⟩; obtain ⟨n3, rfl⟩ := hD.out; clear hD))
          go_ret
          refine ⟨rfl, ?_⟩
          repeat (first | exact Below.refl _ _ | refine pw_below_drewN ?_ _ | refine Below.drew ?_ | refine below_alloc ?_ _ | refine Below.setCell ?_ (by show w.heap.size ≤ w.heap.size + 1; omega) _)
        | true =>
          go_enter Try.func38, Try.ntmps38
          go_wp2_with (first
            | (go_at_call_of 60 off; refine (object_small.calls off _ _ HUO.out).mono ?_; rintro e' w1 ⟨rfl, hD⟩; obtain ⟨n1, rfl⟩ := hD.out; clear hD)
            | (go_at_call_of 60 num; refine (object_small.calls num _ _ HUN.out).mono ?_; rintro e' w2 ⟨rfl, hD⟩; obtain ⟨n2, rfl⟩ := hD.out; clear hD)
            | (go_at_call 59; refine (object_Name.calls k s _ _ HNM.out).mono ?_; rintro e' w3 ⟨rfl, hD⟩; obtain ⟨n3, rfl⟩ := hD.out; clear hD))
          go_region
          go_wp2_with (first
            | (go_at_call_of 60 off; refine (object_small.calls off _ _ HUO.out).mono ?_; rintro e' w1 ⟨rfl, hD⟩; obtain ⟨n1, rfl⟩ := hD.out; clear hD)
            | (go_at_call_of 60 num; refine (object_small.calls num _ _ HUN.out).mono ?_; rintro e' w2 ⟨rfl, hD⟩; obtain ⟨n2, rfl⟩ := hD.out; clear hD)
            | (go_at_call 59; refine (object_Name.calls k s _ _ HNM.out).mono ?_; rintro e' w3 ⟨rfl, hD⟩; obtain ⟨n3, rfl⟩ := hD.out; clear hD))
          go_ret
          refine ⟨rfl, ?_⟩
          repeat (first | exact Below.refl _ _ | refine pw_below_drewN ?_ _ | refine Below.drew ?_ | refine below_alloc ?_ _ | refine Below.setCell ?_ (by show w.heap.size ≤ w.heap.size + 1; omega) _)
set_option maxHeartbeats 8000000 in
set_option maxRecDepth 100000 in
theorem oop_3 (k : Nat) (nm : Bool) (s : ByteArray) (off num : Int) (data : ByteArray) (w : World) (hn : object_Name.f k s = some nm) :
    Calls Try.prog 38 #[.agg #[.int .i64 3, .string s, .int .i64 off, .int .i64 num, .string data]] w fun e w' => e = .returned (.bool ((nm && (smB num && ((0 == off) && (([] : List UInt8) == data.toList)))))) ∧ Below w.heap.size w w' := by
  have hu := Try.underlying27
  have hz := Try.zeroValue27
  have HNM := Aside0.mk hn
  have HUO := Aside0.mk (small_eq1 off)
  have HUN := Aside0.mk (small_eq1 num)
  clear hn
  generalize smB off = uo at *
  generalize smB num = un at *
  generalize hzo : (0 == off) = zo at *
  generalize hzd : (([] : List UInt8) == data.toList) = zd at *
  cases nm with
  | false =>
    go_enter Try.func38, Try.ntmps38
    go_wp2_with (first
      | (go_at_call_of 60 off; refine (object_small.calls off _ _ HUO.out).mono ?_; rintro e' w1 ⟨rfl, hD⟩; obtain ⟨n1, rfl⟩ := hD.out; clear hD)
      | (go_at_call_of 60 num; refine (object_small.calls num _ _ HUN.out).mono ?_; rintro e' w2 ⟨rfl, hD⟩; obtain ⟨n2, rfl⟩ := hD.out; clear hD)
      | (go_at_call 59; refine (object_Name.calls k s _ _ HNM.out).mono ?_; rintro e' w3 ⟨rfl, hD⟩; obtain ⟨n3, rfl⟩ := hD.out; clear hD))
    go_ret
    refine ⟨rfl, ?_⟩
    repeat (first | exact Below.refl _ _ | refine pw_below_drewN ?_ _ | refine Below.drew ?_ | refine below_alloc ?_ _ | refine Below.setCell ?_ (by show w.heap.size ≤ w.heap.size + 1; omega) _)
  | true =>
    cases un with
    | false =>
      go_enter Try.func38, Try.ntmps38
      go_wp2_with (first
        | (go_at_call_of 60 off; refine (object_small.calls off _ _ HUO.out).mono ?_; rintro e' w1 ⟨rfl, hD⟩; obtain ⟨n1, rfl⟩ := hD.out; clear hD)
        | (go_at_call_of 60 num; refine (object_small.calls num _ _ HUN.out).mono ?_; rintro e' w2 ⟨rfl, hD⟩; obtain ⟨n2, rfl⟩ := hD.out; clear hD)
        | (go_at_call 59; refine (object_Name.calls k s _ _ HNM.out).mono ?_; rintro e' w3 ⟨rfl, hD⟩; obtain ⟨n3, rfl⟩ := hD.out; clear hD))
      go_ret
      refine ⟨rfl, ?_⟩
      repeat (first | exact Below.refl _ _ | refine pw_below_drewN ?_ _ | refine Below.drew ?_ | refine below_alloc ?_ _ | refine Below.setCell ?_ (by show w.heap.size ≤ w.heap.size + 1; omega) _)
    | true =>
      cases zo with
      | false =>
        go_enter Try.func38, Try.ntmps38
        go_wp2_with (first
          | (go_at_call_of 60 off; refine (object_small.calls off _ _ HUO.out).mono ?_; rintro e' w1 ⟨rfl, hD⟩; obtain ⟨n1, rfl⟩ := hD.out; clear hD)
          | (go_at_call_of 60 num; refine (object_small.calls num _ _ HUN.out).mono ?_; rintro e' w2 ⟨rfl, hD⟩; obtain ⟨n2, rfl⟩ := hD.out; clear hD)
          | (go_at_call 59; refine (object_Name.calls k s _ _ HNM.out).mono ?_; rintro e' w3 ⟨rfl, hD⟩; obtain ⟨n3, rfl⟩ := hD.out; clear hD))
        go_ret
        refine ⟨rfl, ?_⟩
        repeat (first | exact Below.refl _ _ | refine pw_below_drewN ?_ _ | refine Below.drew ?_ | refine below_alloc ?_ _ | refine Below.setCell ?_ (by show w.heap.size ≤ w.heap.size + 1; omega) _)
      | true =>
        cases zd with
        | false =>
          go_enter Try.func38, Try.ntmps38
          go_wp2_with (first
            | (go_at_call_of 60 off; refine (object_small.calls off _ _ HUO.out).mono ?_; rintro e' w1 ⟨rfl, hD⟩; obtain ⟨n1, rfl⟩ := hD.out; clear hD)
            | (go_at_call_of 60 num; refine (object_small.calls num _ _ HUN.out).mono ?_; rintro e' w2 ⟨rfl, hD⟩; obtain ⟨n2, rfl⟩ := hD.out; clear hD)
            | (go_at_call 59; refine (object_Name.calls k s _ _ HNM.out).mono ?_; rintro e' w3 ⟨rfl, hD⟩; obtain ⟨n3, rfl⟩ := hD.out; clear hD))
          go_ret
          refine ⟨rfl, ?_⟩
          repeat (first | exact Below.refl _ _ | refine pw_below_drewN ?_ _ | refine Below.drew ?_ | refine below_alloc ?_ _ | refine Below.setCell ?_ (by show w.heap.size ≤ w.heap.size + 1; omega) _)
        | true =>
          go_enter Try.func38, Try.ntmps38
          go_wp2_with (first
            | (go_at_call_of 60 off; refine (object_small.calls off _ _ HUO.out).mono ?_; rintro e' w1 ⟨rfl, hD⟩; obtain ⟨n1, rfl⟩ := hD.out; clear hD)
            | (go_at_call_of 60 num; refine (object_small.calls num _ _ HUN.out).mono ?_; rintro e' w2 ⟨rfl, hD⟩; obtain ⟨n2, rfl⟩ := hD.out; clear hD)
            | (go_at_call 59; refine (object_Name.calls k s _ _ HNM.out).mono ?_; rintro e' w3 ⟨rfl, hD⟩; obtain ⟨n3, rfl⟩ := hD.out; clear hD))
          go_ret
          refine ⟨rfl, ?_⟩
          repeat (first | exact Below.refl _ _ | refine pw_below_drewN ?_ _ | refine Below.drew ?_ | refine below_alloc ?_ _ | refine Below.setCell ?_ (by show w.heap.size ≤ w.heap.size + 1; omega) _)
set_option maxHeartbeats 8000000 in
set_option maxRecDepth 100000 in
theorem oop_4 (k : Nat) (nm : Bool) (s : ByteArray) (off num : Int) (data : ByteArray) (w : World) (hn : object_Name.f k s = some nm) :
    Calls Try.prog 38 #[.agg #[.int .i64 4, .string s, .int .i64 off, .int .i64 num, .string data]] w fun e w' => e = .returned (.bool ((nm && ((0 == off) && ((0 == num) && (([] : List UInt8) == data.toList)))))) ∧ Below w.heap.size w w' := by
  have hu := Try.underlying27
  have hz := Try.zeroValue27
  have HNM := Aside0.mk hn
  have HUO := Aside0.mk (small_eq1 off)
  have HUN := Aside0.mk (small_eq1 num)
  clear hn
  generalize smB off = uo at *
  generalize smB num = un at *
  generalize hzo : (0 == off) = zo at *
  generalize hzn : (0 == num) = zn at *
  generalize hzd : (([] : List UInt8) == data.toList) = zd at *
  cases nm with
  | false =>
    go_enter Try.func38, Try.ntmps38
    go_wp2_with (first
      | (go_at_call_of 60 off; refine (object_small.calls off _ _ HUO.out).mono ?_; rintro e' w1 ⟨rfl, hD⟩; obtain ⟨n1, rfl⟩ := hD.out; clear hD)
      | (go_at_call_of 60 num; refine (object_small.calls num _ _ HUN.out).mono ?_; rintro e' w2 ⟨rfl, hD⟩; obtain ⟨n2, rfl⟩ := hD.out; clear hD)
      | (go_at_call 59; refine (object_Name.calls k s _ _ HNM.out).mono ?_; rintro e' w3 ⟨rfl, hD⟩; obtain ⟨n3, rfl⟩ := hD.out; clear hD))
    go_ret
    refine ⟨rfl, ?_⟩
    repeat (first | exact Below.refl _ _ | refine pw_below_drewN ?_ _ | refine Below.drew ?_ | refine below_alloc ?_ _ | refine Below.setCell ?_ (by show w.heap.size ≤ w.heap.size + 1; omega) _)
  | true =>
    cases zo with
    | false =>
      go_enter Try.func38, Try.ntmps38
      go_wp2_with (first
        | (go_at_call_of 60 off; refine (object_small.calls off _ _ HUO.out).mono ?_; rintro e' w1 ⟨rfl, hD⟩; obtain ⟨n1, rfl⟩ := hD.out; clear hD)
        | (go_at_call_of 60 num; refine (object_small.calls num _ _ HUN.out).mono ?_; rintro e' w2 ⟨rfl, hD⟩; obtain ⟨n2, rfl⟩ := hD.out; clear hD)
        | (go_at_call 59; refine (object_Name.calls k s _ _ HNM.out).mono ?_; rintro e' w3 ⟨rfl, hD⟩; obtain ⟨n3, rfl⟩ := hD.out; clear hD))
      go_ret
      refine ⟨rfl, ?_⟩
      repeat (first | exact Below.refl _ _ | refine pw_below_drewN ?_ _ | refine Below.drew ?_ | refine below_alloc ?_ _ | refine Below.setCell ?_ (by show w.heap.size ≤ w.heap.size + 1; omega) _)
    | true =>
      cases zn with
      | false =>
        go_enter Try.func38, Try.ntmps38
        go_wp2_with (first
          | (go_at_call_of 60 off; refine (object_small.calls off _ _ HUO.out).mono ?_; rintro e' w1 ⟨rfl, hD⟩; obtain ⟨n1, rfl⟩ := hD.out; clear hD)
          | (go_at_call_of 60 num; refine (object_small.calls num _ _ HUN.out).mono ?_; rintro e' w2 ⟨rfl, hD⟩; obtain ⟨n2, rfl⟩ := hD.out; clear hD)
          | (go_at_call 59; refine (object_Name.calls k s _ _ HNM.out).mono ?_; rintro e' w3 ⟨rfl, hD⟩; obtain ⟨n3, rfl⟩ := hD.out; clear hD))
        go_ret
        refine ⟨rfl, ?_⟩
        repeat (first | exact Below.refl _ _ | refine pw_below_drewN ?_ _ | refine Below.drew ?_ | refine below_alloc ?_ _ | refine Below.setCell ?_ (by show w.heap.size ≤ w.heap.size + 1; omega) _)
      | true =>
        cases zd with
        | false =>
          go_enter Try.func38, Try.ntmps38
          go_wp2_with (first
            | (go_at_call_of 60 off; refine (object_small.calls off _ _ HUO.out).mono ?_; rintro e' w1 ⟨rfl, hD⟩; obtain ⟨n1, rfl⟩ := hD.out; clear hD)
            | (go_at_call_of 60 num; refine (object_small.calls num _ _ HUN.out).mono ?_; rintro e' w2 ⟨rfl, hD⟩; obtain ⟨n2, rfl⟩ := hD.out; clear hD)
            | (go_at_call 59; refine (object_Name.calls k s _ _ HNM.out).mono ?_; rintro e' w3 ⟨rfl, hD⟩; obtain ⟨n3, rfl⟩ := hD.out; clear hD))
          go_ret
          refine ⟨rfl, ?_⟩
          repeat (first | exact Below.refl _ _ | refine pw_below_drewN ?_ _ | refine Below.drew ?_ | refine below_alloc ?_ _ | refine Below.setCell ?_ (by show w.heap.size ≤ w.heap.size + 1; omega) _)
        | true =>
          go_enter Try.func38, Try.ntmps38
          go_wp2_with (first
            | (go_at_call_of 60 off; refine (object_small.calls off _ _ HUO.out).mono ?_; rintro e' w1 ⟨rfl, hD⟩; obtain ⟨n1, rfl⟩ := hD.out; clear hD)
            | (go_at_call_of 60 num; refine (object_small.calls num _ _ HUN.out).mono ?_; rintro e' w2 ⟨rfl, hD⟩; obtain ⟨n2, rfl⟩ := hD.out; clear hD)
            | (go_at_call 59; refine (object_Name.calls k s _ _ HNM.out).mono ?_; rintro e' w3 ⟨rfl, hD⟩; obtain ⟨n3, rfl⟩ := hD.out; clear hD))
          go_ret
          refine ⟨rfl, ?_⟩
          repeat (first | exact Below.refl _ _ | refine pw_below_drewN ?_ _ | refine Below.drew ?_ | refine below_alloc ?_ _ | refine Below.setCell ?_ (by show w.heap.size ≤ w.heap.size + 1; omega) _)
set_option maxHeartbeats 8000000 in
set_option maxRecDepth 100000 in
theorem oop_5 (k : Nat) (nm : Bool) (s : ByteArray) (off num : Int) (data : ByteArray) (w : World) (hn : object_Name.f k s = some nm) :
    Calls Try.prog 38 #[.agg #[.int .i64 5, .string s, .int .i64 off, .int .i64 num, .string data]] w fun e w' => e = .returned (.bool ((nm && (smB off && (smB num && (([] : List UInt8) == data.toList)))))) ∧ Below w.heap.size w w' := by
  have hu := Try.underlying27
  have hz := Try.zeroValue27
  have HNM := Aside0.mk hn
  have HUO := Aside0.mk (small_eq1 off)
  have HUN := Aside0.mk (small_eq1 num)
  clear hn
  generalize smB off = uo at *
  generalize smB num = un at *
  generalize hzd : (([] : List UInt8) == data.toList) = zd at *
  cases nm with
  | false =>
    go_enter Try.func38, Try.ntmps38
    go_wp2_with (first
      | (go_at_call_of 60 off; refine (object_small.calls off _ _ HUO.out).mono ?_; rintro e' w1 ⟨rfl, hD⟩; obtain ⟨n1, rfl⟩ := hD.out; clear hD)
      | (go_at_call_of 60 num; refine (object_small.calls num _ _ HUN.out).mono ?_; rintro e' w2 ⟨rfl, hD⟩; obtain ⟨n2, rfl⟩ := hD.out; clear hD)
      | (go_at_call 59; refine (object_Name.calls k s _ _ HNM.out).mono ?_; rintro e' w3 ⟨rfl, hD⟩; obtain ⟨n3, rfl⟩ := hD.out; clear hD))
    go_region
    go_wp2_with (first
      | (go_at_call_of 60 off; refine (object_small.calls off _ _ HUO.out).mono ?_; rintro e' w1 ⟨rfl, hD⟩; obtain ⟨n1, rfl⟩ := hD.out; clear hD)
      | (go_at_call_of 60 num; refine (object_small.calls num _ _ HUN.out).mono ?_; rintro e' w2 ⟨rfl, hD⟩; obtain ⟨n2, rfl⟩ := hD.out; clear hD)
      | (go_at_call 59; refine (object_Name.calls k s _ _ HNM.out).mono ?_; rintro e' w3 ⟨rfl, hD⟩; obtain ⟨n3, rfl⟩ := hD.out; clear hD))
    go_ret
    refine ⟨rfl, ?_⟩
    repeat (first | exact Below.refl _ _ | refine pw_below_drewN ?_ _ | refine Below.drew ?_ | refine below_alloc ?_ _ | refine Below.setCell ?_ (by show w.heap.size ≤ w.heap.size + 1; omega) _)
  | true =>
    cases uo with
    | false =>
      go_enter Try.func38, Try.ntmps38
      go_wp2_with (first
        | (go_at_call_of 60 off; refine (object_small.calls off _ _ HUO.out).mono ?_; rintro e' w1 ⟨rfl, hD⟩; obtain ⟨n1, rfl⟩ := hD.out; clear hD)
        | (go_at_call_of 60 num; refine (object_small.calls num _ _ HUN.out).mono ?_; rintro e' w2 ⟨rfl, hD⟩; obtain ⟨n2, rfl⟩ := hD.out; clear hD)
        | (go_at_call 59; refine (object_Name.calls k s _ _ HNM.out).mono ?_; rintro e' w3 ⟨rfl, hD⟩; obtain ⟨n3, rfl⟩ := hD.out; clear hD))
      go_region
      go_wp2_with (first
        | (go_at_call_of 60 off; refine (object_small.calls off _ _ HUO.out).mono ?_; rintro e' w1 ⟨rfl, hD⟩; obtain ⟨n1, rfl⟩ := hD.out; clear hD)
        | (go_at_call_of 60 num; refine (object_small.calls num _ _ HUN.out).mono ?_; rintro e' w2 ⟨rfl, hD⟩; obtain ⟨n2, rfl⟩ := hD.out; clear hD)
        | (go_at_call 59; refine (object_Name.calls k s _ _ HNM.out).mono ?_; rintro e' w3 ⟨rfl, hD⟩; obtain ⟨n3, rfl⟩ := hD.out; clear hD))
      go_ret
      refine ⟨rfl, ?_⟩
      repeat (first | exact Below.refl _ _ | refine pw_below_drewN ?_ _ | refine Below.drew ?_ | refine below_alloc ?_ _ | refine Below.setCell ?_ (by show w.heap.size ≤ w.heap.size + 1; omega) _)
    | true =>
      cases un with
      | false =>
        go_enter Try.func38, Try.ntmps38
        go_wp2_with (first
          | (go_at_call_of 60 off; refine (object_small.calls off _ _ HUO.out).mono ?_; rintro e' w1 ⟨rfl, hD⟩; obtain ⟨n1, rfl⟩ := hD.out; clear hD)
          | (go_at_call_of 60 num; refine (object_small.calls num _ _ HUN.out).mono ?_; rintro e' w2 ⟨rfl, hD⟩; obtain ⟨n2, rfl⟩ := hD.out; clear hD)
          | (go_at_call 59; refine (object_Name.calls k s _ _ HNM.out).mono ?_; rintro e' w3 ⟨rfl, hD⟩; obtain ⟨n3, rfl⟩ := hD.out; clear hD))
        go_region
        go_wp2_with (first
          | (go_at_call_of 60 off; refine (object_small.calls off _ _ HUO.out).mono ?_; rintro e' w1 ⟨rfl, hD⟩; obtain ⟨n1, rfl⟩ := hD.out; clear hD)
          | (go_at_call_of 60 num; refine (object_small.calls num _ _ HUN.out).mono ?_; rintro e' w2 ⟨rfl, hD⟩; obtain ⟨n2, rfl⟩ := hD.out; clear hD)
          | (go_at_call 59; refine (object_Name.calls k s _ _ HNM.out).mono ?_; rintro e' w3 ⟨rfl, hD⟩; obtain ⟨n3, rfl⟩ := hD.out; clear hD))
        go_ret
        refine ⟨rfl, ?_⟩
        repeat (first | exact Below.refl _ _ | refine pw_below_drewN ?_ _ | refine Below.drew ?_ | refine below_alloc ?_ _ | refine Below.setCell ?_ (by show w.heap.size ≤ w.heap.size + 1; omega) _)
      | true =>
        cases zd with
        | false =>
          go_enter Try.func38, Try.ntmps38
          go_wp2_with (first
            | (go_at_call_of 60 off; refine (object_small.calls off _ _ HUO.out).mono ?_; rintro e' w1 ⟨rfl, hD⟩; obtain ⟨n1, rfl⟩ := hD.out; clear hD)
            | (go_at_call_of 60 num; refine (object_small.calls num _ _ HUN.out).mono ?_; rintro e' w2 ⟨rfl, hD⟩; obtain ⟨n2, rfl⟩ := hD.out; clear hD)
            | (go_at_call 59; refine (object_Name.calls k s _ _ HNM.out).mono ?_; rintro e' w3 ⟨rfl, hD⟩; obtain ⟨n3, rfl⟩ := hD.out; clear hD))
          go_region
          go_wp2_with (first
            | (go_at_call_of 60 off; refine (object_small.calls off _ _ HUO.out).mono ?_; rintro e' w1 ⟨rfl, hD⟩; obtain ⟨n1, rfl⟩ := hD.out; clear hD)
            | (go_at_call_of 60 num; refine (object_small.calls num _ _ HUN.out).mono ?_; rintro e' w2 ⟨rfl, hD⟩; obtain ⟨n2, rfl⟩ := hD.out; clear hD)
            | (go_at_call 59; refine (object_Name.calls k s _ _ HNM.out).mono ?_; rintro e' w3 ⟨rfl, hD⟩; obtain ⟨n3, rfl⟩ := hD.out; clear hD))
          go_ret
          refine ⟨rfl, ?_⟩
          repeat (first | exact Below.refl _ _ | refine pw_below_drewN ?_ _ | refine Below.drew ?_ | refine below_alloc ?_ _ | refine Below.setCell ?_ (by show w.heap.size ≤ w.heap.size + 1; omega) _)
        | true =>
          go_enter Try.func38, Try.ntmps38
          go_wp2_with (first
            | (go_at_call_of 60 off; refine (object_small.calls off _ _ HUO.out).mono ?_; rintro e' w1 ⟨rfl, hD⟩; obtain ⟨n1, rfl⟩ := hD.out; clear hD)
            | (go_at_call_of 60 num; refine (object_small.calls num _ _ HUN.out).mono ?_; rintro e' w2 ⟨rfl, hD⟩; obtain ⟨n2, rfl⟩ := hD.out; clear hD)
            | (go_at_call 59; refine (object_Name.calls k s _ _ HNM.out).mono ?_; rintro e' w3 ⟨rfl, hD⟩; obtain ⟨n3, rfl⟩ := hD.out; clear hD))
          go_region
          go_wp2_with (first
            | (go_at_call_of 60 off; refine (object_small.calls off _ _ HUO.out).mono ?_; rintro e' w1 ⟨rfl, hD⟩; obtain ⟨n1, rfl⟩ := hD.out; clear hD)
            | (go_at_call_of 60 num; refine (object_small.calls num _ _ HUN.out).mono ?_; rintro e' w2 ⟨rfl, hD⟩; obtain ⟨n2, rfl⟩ := hD.out; clear hD)
            | (go_at_call 59; refine (object_Name.calls k s _ _ HNM.out).mono ?_; rintro e' w3 ⟨rfl, hD⟩; obtain ⟨n3, rfl⟩ := hD.out; clear hD))
          go_ret
          refine ⟨rfl, ?_⟩
          repeat (first | exact Below.refl _ _ | refine pw_below_drewN ?_ _ | refine Below.drew ?_ | refine below_alloc ?_ _ | refine Below.setCell ?_ (by show w.heap.size ≤ w.heap.size + 1; omega) _)
set_option maxHeartbeats 8000000 in
set_option maxRecDepth 100000 in
theorem oop_6 (k : Nat) (nm : Bool) (s : ByteArray) (off num : Int) (data : ByteArray) (w : World) (hn : object_Name.f k s = some nm) :
    Calls Try.prog 38 #[.agg #[.int .i64 6, .string s, .int .i64 off, .int .i64 num, .string data]] w fun e w' => e = .returned (.bool ((nm && ((0 == off) && ((0 == num) && (([] : List UInt8) == data.toList)))))) ∧ Below w.heap.size w w' := by
  have hu := Try.underlying27
  have hz := Try.zeroValue27
  have HNM := Aside0.mk hn
  have HUO := Aside0.mk (small_eq1 off)
  have HUN := Aside0.mk (small_eq1 num)
  clear hn
  generalize smB off = uo at *
  generalize smB num = un at *
  generalize hzo : (0 == off) = zo at *
  generalize hzn : (0 == num) = zn at *
  generalize hzd : (([] : List UInt8) == data.toList) = zd at *
  cases nm with
  | false =>
    go_enter Try.func38, Try.ntmps38
    go_wp2_with (first
      | (go_at_call_of 60 off; refine (object_small.calls off _ _ HUO.out).mono ?_; rintro e' w1 ⟨rfl, hD⟩; obtain ⟨n1, rfl⟩ := hD.out; clear hD)
      | (go_at_call_of 60 num; refine (object_small.calls num _ _ HUN.out).mono ?_; rintro e' w2 ⟨rfl, hD⟩; obtain ⟨n2, rfl⟩ := hD.out; clear hD)
      | (go_at_call 59; refine (object_Name.calls k s _ _ HNM.out).mono ?_; rintro e' w3 ⟨rfl, hD⟩; obtain ⟨n3, rfl⟩ := hD.out; clear hD))
    go_ret
    refine ⟨rfl, ?_⟩
    repeat (first | exact Below.refl _ _ | refine pw_below_drewN ?_ _ | refine Below.drew ?_ | refine below_alloc ?_ _ | refine Below.setCell ?_ (by show w.heap.size ≤ w.heap.size + 1; omega) _)
  | true =>
    cases zo with
    | false =>
      go_enter Try.func38, Try.ntmps38
      go_wp2_with (first
        | (go_at_call_of 60 off; refine (object_small.calls off _ _ HUO.out).mono ?_; rintro e' w1 ⟨rfl, hD⟩; obtain ⟨n1, rfl⟩ := hD.out; clear hD)
        | (go_at_call_of 60 num; refine (object_small.calls num _ _ HUN.out).mono ?_; rintro e' w2 ⟨rfl, hD⟩; obtain ⟨n2, rfl⟩ := hD.out; clear hD)
        | (go_at_call 59; refine (object_Name.calls k s _ _ HNM.out).mono ?_; rintro e' w3 ⟨rfl, hD⟩; obtain ⟨n3, rfl⟩ := hD.out; clear hD))
      go_ret
      refine ⟨rfl, ?_⟩
      repeat (first | exact Below.refl _ _ | refine pw_below_drewN ?_ _ | refine Below.drew ?_ | refine below_alloc ?_ _ | refine Below.setCell ?_ (by show w.heap.size ≤ w.heap.size + 1; omega) _)
    | true =>
      cases zn with
      | false =>
        go_enter Try.func38, Try.ntmps38
        go_wp2_with (first
          | (go_at_call_of 60 off; refine (object_small.calls off _ _ HUO.out).mono ?_; rintro e' w1 ⟨rfl, hD⟩; obtain ⟨n1, rfl⟩ := hD.out; clear hD)
          | (go_at_call_of 60 num; refine (object_small.calls num _ _ HUN.out).mono ?_; rintro e' w2 ⟨rfl, hD⟩; obtain ⟨n2, rfl⟩ := hD.out; clear hD)
          | (go_at_call 59; refine (object_Name.calls k s _ _ HNM.out).mono ?_; rintro e' w3 ⟨rfl, hD⟩; obtain ⟨n3, rfl⟩ := hD.out; clear hD))
        go_ret
        refine ⟨rfl, ?_⟩
        repeat (first | exact Below.refl _ _ | refine pw_below_drewN ?_ _ | refine Below.drew ?_ | refine below_alloc ?_ _ | refine Below.setCell ?_ (by show w.heap.size ≤ w.heap.size + 1; omega) _)
      | true =>
        cases zd with
        | false =>
          go_enter Try.func38, Try.ntmps38
          go_wp2_with (first
            | (go_at_call_of 60 off; refine (object_small.calls off _ _ HUO.out).mono ?_; rintro e' w1 ⟨rfl, hD⟩; obtain ⟨n1, rfl⟩ := hD.out; clear hD)
            | (go_at_call_of 60 num; refine (object_small.calls num _ _ HUN.out).mono ?_; rintro e' w2 ⟨rfl, hD⟩; obtain ⟨n2, rfl⟩ := hD.out; clear hD)
            | (go_at_call 59; refine (object_Name.calls k s _ _ HNM.out).mono ?_; rintro e' w3 ⟨rfl, hD⟩; obtain ⟨n3, rfl⟩ := hD.out; clear hD))
          go_ret
          refine ⟨rfl, ?_⟩
          repeat (first | exact Below.refl _ _ | refine pw_below_drewN ?_ _ | refine Below.drew ?_ | refine below_alloc ?_ _ | refine Below.setCell ?_ (by show w.heap.size ≤ w.heap.size + 1; omega) _)
        | true =>
          go_enter Try.func38, Try.ntmps38
          go_wp2_with (first
            | (go_at_call_of 60 off; refine (object_small.calls off _ _ HUO.out).mono ?_; rintro e' w1 ⟨rfl, hD⟩; obtain ⟨n1, rfl⟩ := hD.out; clear hD)
            | (go_at_call_of 60 num; refine (object_small.calls num _ _ HUN.out).mono ?_; rintro e' w2 ⟨rfl, hD⟩; obtain ⟨n2, rfl⟩ := hD.out; clear hD)
            | (go_at_call 59; refine (object_Name.calls k s _ _ HNM.out).mono ?_; rintro e' w3 ⟨rfl, hD⟩; obtain ⟨n3, rfl⟩ := hD.out; clear hD))
          go_ret
          refine ⟨rfl, ?_⟩
          repeat (first | exact Below.refl _ _ | refine pw_below_drewN ?_ _ | refine Below.drew ?_ | refine below_alloc ?_ _ | refine Below.setCell ?_ (by show w.heap.size ≤ w.heap.size + 1; omega) _)
set_option maxHeartbeats 8000000 in
set_option maxRecDepth 100000 in
theorem oop_7 (k : Nat) (nm : Bool) (s : ByteArray) (off num : Int) (data : ByteArray) (w : World) (hn : object_Name.f k s = some nm) :
    Calls Try.prog 38 #[.agg #[.int .i64 7, .string s, .int .i64 off, .int .i64 num, .string data]] w fun e w' => e = .returned (.bool ((nm && ((0 == off) && ((0 == num) && (([] : List UInt8) == data.toList)))))) ∧ Below w.heap.size w w' := by
  have hu := Try.underlying27
  have hz := Try.zeroValue27
  have HNM := Aside0.mk hn
  have HUO := Aside0.mk (small_eq1 off)
  have HUN := Aside0.mk (small_eq1 num)
  clear hn
  generalize smB off = uo at *
  generalize smB num = un at *
  generalize hzo : (0 == off) = zo at *
  generalize hzn : (0 == num) = zn at *
  generalize hzd : (([] : List UInt8) == data.toList) = zd at *
  cases nm with
  | false =>
    go_enter Try.func38, Try.ntmps38
    go_wp2_with (first
      | (go_at_call_of 60 off; refine (object_small.calls off _ _ HUO.out).mono ?_; rintro e' w1 ⟨rfl, hD⟩; obtain ⟨n1, rfl⟩ := hD.out; clear hD)
      | (go_at_call_of 60 num; refine (object_small.calls num _ _ HUN.out).mono ?_; rintro e' w2 ⟨rfl, hD⟩; obtain ⟨n2, rfl⟩ := hD.out; clear hD)
      | (go_at_call 59; refine (object_Name.calls k s _ _ HNM.out).mono ?_; rintro e' w3 ⟨rfl, hD⟩; obtain ⟨n3, rfl⟩ := hD.out; clear hD))
    go_ret
    refine ⟨rfl, ?_⟩
    repeat (first | exact Below.refl _ _ | refine pw_below_drewN ?_ _ | refine Below.drew ?_ | refine below_alloc ?_ _ | refine Below.setCell ?_ (by show w.heap.size ≤ w.heap.size + 1; omega) _)
  | true =>
    cases zo with
    | false =>
      go_enter Try.func38, Try.ntmps38
      go_wp2_with (first
        | (go_at_call_of 60 off; refine (object_small.calls off _ _ HUO.out).mono ?_; rintro e' w1 ⟨rfl, hD⟩; obtain ⟨n1, rfl⟩ := hD.out; clear hD)
        | (go_at_call_of 60 num; refine (object_small.calls num _ _ HUN.out).mono ?_; rintro e' w2 ⟨rfl, hD⟩; obtain ⟨n2, rfl⟩ := hD.out; clear hD)
        | (go_at_call 59; refine (object_Name.calls k s _ _ HNM.out).mono ?_; rintro e' w3 ⟨rfl, hD⟩; obtain ⟨n3, rfl⟩ := hD.out; clear hD))
      go_ret
      refine ⟨rfl, ?_⟩
      repeat (first | exact Below.refl _ _ | refine pw_below_drewN ?_ _ | refine Below.drew ?_ | refine below_alloc ?_ _ | refine Below.setCell ?_ (by show w.heap.size ≤ w.heap.size + 1; omega) _)
    | true =>
      cases zn with
      | false =>
        go_enter Try.func38, Try.ntmps38
        go_wp2_with (first
          | (go_at_call_of 60 off; refine (object_small.calls off _ _ HUO.out).mono ?_; rintro e' w1 ⟨rfl, hD⟩; obtain ⟨n1, rfl⟩ := hD.out; clear hD)
          | (go_at_call_of 60 num; refine (object_small.calls num _ _ HUN.out).mono ?_; rintro e' w2 ⟨rfl, hD⟩; obtain ⟨n2, rfl⟩ := hD.out; clear hD)
          | (go_at_call 59; refine (object_Name.calls k s _ _ HNM.out).mono ?_; rintro e' w3 ⟨rfl, hD⟩; obtain ⟨n3, rfl⟩ := hD.out; clear hD))
        go_ret
        refine ⟨rfl, ?_⟩
        repeat (first | exact Below.refl _ _ | refine pw_below_drewN ?_ _ | refine Below.drew ?_ | refine below_alloc ?_ _ | refine Below.setCell ?_ (by show w.heap.size ≤ w.heap.size + 1; omega) _)
      | true =>
        cases zd with
        | false =>
          go_enter Try.func38, Try.ntmps38
          go_wp2_with (first
            | (go_at_call_of 60 off; refine (object_small.calls off _ _ HUO.out).mono ?_; rintro e' w1 ⟨rfl, hD⟩; obtain ⟨n1, rfl⟩ := hD.out; clear hD)
            | (go_at_call_of 60 num; refine (object_small.calls num _ _ HUN.out).mono ?_; rintro e' w2 ⟨rfl, hD⟩; obtain ⟨n2, rfl⟩ := hD.out; clear hD)
            | (go_at_call 59; refine (object_Name.calls k s _ _ HNM.out).mono ?_; rintro e' w3 ⟨rfl, hD⟩; obtain ⟨n3, rfl⟩ := hD.out; clear hD))
          go_ret
          refine ⟨rfl, ?_⟩
          repeat (first | exact Below.refl _ _ | refine pw_below_drewN ?_ _ | refine Below.drew ?_ | refine below_alloc ?_ _ | refine Below.setCell ?_ (by show w.heap.size ≤ w.heap.size + 1; omega) _)
        | true =>
          go_enter Try.func38, Try.ntmps38
          go_wp2_with (first
            | (go_at_call_of 60 off; refine (object_small.calls off _ _ HUO.out).mono ?_; rintro e' w1 ⟨rfl, hD⟩; obtain ⟨n1, rfl⟩ := hD.out; clear hD)
            | (go_at_call_of 60 num; refine (object_small.calls num _ _ HUN.out).mono ?_; rintro e' w2 ⟨rfl, hD⟩; obtain ⟨n2, rfl⟩ := hD.out; clear hD)
            | (go_at_call 59; refine (object_Name.calls k s _ _ HNM.out).mono ?_; rintro e' w3 ⟨rfl, hD⟩; obtain ⟨n3, rfl⟩ := hD.out; clear hD))
          go_ret
          refine ⟨rfl, ?_⟩
          repeat (first | exact Below.refl _ _ | refine pw_below_drewN ?_ _ | refine Below.drew ?_ | refine below_alloc ?_ _ | refine Below.setCell ?_ (by show w.heap.size ≤ w.heap.size + 1; omega) _)
set_option maxHeartbeats 8000000 in
set_option maxRecDepth 100000 in
theorem oop_8 (k : Nat) (nm : Bool) (s : ByteArray) (off num : Int) (data : ByteArray) (w : World) (hn : object_Name.f k s = some nm) :
    Calls Try.prog 38 #[.agg #[.int .i64 8, .string s, .int .i64 off, .int .i64 num, .string data]] w fun e w' => e = .returned (.bool ((nm && ((0 == off) && ((0 == num) && (([] : List UInt8) == data.toList)))))) ∧ Below w.heap.size w w' := by
  have hu := Try.underlying27
  have hz := Try.zeroValue27
  have HNM := Aside0.mk hn
  have HUO := Aside0.mk (small_eq1 off)
  have HUN := Aside0.mk (small_eq1 num)
  clear hn
  generalize smB off = uo at *
  generalize smB num = un at *
  generalize hzo : (0 == off) = zo at *
  generalize hzn : (0 == num) = zn at *
  generalize hzd : (([] : List UInt8) == data.toList) = zd at *
  cases nm with
  | false =>
    go_enter Try.func38, Try.ntmps38
    go_wp2_with (first
      | (go_at_call_of 60 off; refine (object_small.calls off _ _ HUO.out).mono ?_; rintro e' w1 ⟨rfl, hD⟩; obtain ⟨n1, rfl⟩ := hD.out; clear hD)
      | (go_at_call_of 60 num; refine (object_small.calls num _ _ HUN.out).mono ?_; rintro e' w2 ⟨rfl, hD⟩; obtain ⟨n2, rfl⟩ := hD.out; clear hD)
      | (go_at_call 59; refine (object_Name.calls k s _ _ HNM.out).mono ?_; rintro e' w3 ⟨rfl, hD⟩; obtain ⟨n3, rfl⟩ := hD.out; clear hD))
    go_ret
    refine ⟨rfl, ?_⟩
    repeat (first | exact Below.refl _ _ | refine pw_below_drewN ?_ _ | refine Below.drew ?_ | refine below_alloc ?_ _ | refine Below.setCell ?_ (by show w.heap.size ≤ w.heap.size + 1; omega) _)
  | true =>
    cases zo with
    | false =>
      go_enter Try.func38, Try.ntmps38
      go_wp2_with (first
        | (go_at_call_of 60 off; refine (object_small.calls off _ _ HUO.out).mono ?_; rintro e' w1 ⟨rfl, hD⟩; obtain ⟨n1, rfl⟩ := hD.out; clear hD)
        | (go_at_call_of 60 num; refine (object_small.calls num _ _ HUN.out).mono ?_; rintro e' w2 ⟨rfl, hD⟩; obtain ⟨n2, rfl⟩ := hD.out; clear hD)
        | (go_at_call 59; refine (object_Name.calls k s _ _ HNM.out).mono ?_; rintro e' w3 ⟨rfl, hD⟩; obtain ⟨n3, rfl⟩ := hD.out; clear hD))
      go_ret
      refine ⟨rfl, ?_⟩
      repeat (first | exact Below.refl _ _ | refine pw_below_drewN ?_ _ | refine Below.drew ?_ | refine below_alloc ?_ _ | refine Below.setCell ?_ (by show w.heap.size ≤ w.heap.size + 1; omega) _)
    | true =>
      cases zn with
      | false =>
        go_enter Try.func38, Try.ntmps38
        go_wp2_with (first
          | (go_at_call_of 60 off; refine (object_small.calls off _ _ HUO.out).mono ?_; rintro e' w1 ⟨rfl, hD⟩; obtain ⟨n1, rfl⟩ := hD.out; clear hD)
          | (go_at_call_of 60 num; refine (object_small.calls num _ _ HUN.out).mono ?_; rintro e' w2 ⟨rfl, hD⟩; obtain ⟨n2, rfl⟩ := hD.out; clear hD)
          | (go_at_call 59; refine (object_Name.calls k s _ _ HNM.out).mono ?_; rintro e' w3 ⟨rfl, hD⟩; obtain ⟨n3, rfl⟩ := hD.out; clear hD))
        go_ret
        refine ⟨rfl, ?_⟩
        repeat (first | exact Below.refl _ _ | refine pw_below_drewN ?_ _ | refine Below.drew ?_ | refine below_alloc ?_ _ | refine Below.setCell ?_ (by show w.heap.size ≤ w.heap.size + 1; omega) _)
      | true =>
        cases zd with
        | false =>
          go_enter Try.func38, Try.ntmps38
          go_wp2_with (first
            | (go_at_call_of 60 off; refine (object_small.calls off _ _ HUO.out).mono ?_; rintro e' w1 ⟨rfl, hD⟩; obtain ⟨n1, rfl⟩ := hD.out; clear hD)
            | (go_at_call_of 60 num; refine (object_small.calls num _ _ HUN.out).mono ?_; rintro e' w2 ⟨rfl, hD⟩; obtain ⟨n2, rfl⟩ := hD.out; clear hD)
            | (go_at_call 59; refine (object_Name.calls k s _ _ HNM.out).mono ?_; rintro e' w3 ⟨rfl, hD⟩; obtain ⟨n3, rfl⟩ := hD.out; clear hD))
          go_ret
          refine ⟨rfl, ?_⟩
          repeat (first | exact Below.refl _ _ | refine pw_below_drewN ?_ _ | refine Below.drew ?_ | refine below_alloc ?_ _ | refine Below.setCell ?_ (by show w.heap.size ≤ w.heap.size + 1; omega) _)
        | true =>
          go_enter Try.func38, Try.ntmps38
          go_wp2_with (first
            | (go_at_call_of 60 off; refine (object_small.calls off _ _ HUO.out).mono ?_; rintro e' w1 ⟨rfl, hD⟩; obtain ⟨n1, rfl⟩ := hD.out; clear hD)
            | (go_at_call_of 60 num; refine (object_small.calls num _ _ HUN.out).mono ?_; rintro e' w2 ⟨rfl, hD⟩; obtain ⟨n2, rfl⟩ := hD.out; clear hD)
            | (go_at_call 59; refine (object_Name.calls k s _ _ HNM.out).mono ?_; rintro e' w3 ⟨rfl, hD⟩; obtain ⟨n3, rfl⟩ := hD.out; clear hD))
          go_ret
          refine ⟨rfl, ?_⟩
          repeat (first | exact Below.refl _ _ | refine pw_below_drewN ?_ _ | refine Below.drew ?_ | refine below_alloc ?_ _ | refine Below.setCell ?_ (by show w.heap.size ≤ w.heap.size + 1; omega) _)
set_option maxHeartbeats 8000000 in
set_option maxRecDepth 100000 in
theorem oop_9 (k : Nat) (nm : Bool) (s : ByteArray) (off num : Int) (data : ByteArray) (w : World) (hn : object_Name.f k s = some nm) :
    Calls Try.prog 38 #[.agg #[.int .i64 9, .string s, .int .i64 off, .int .i64 num, .string data]] w fun e w' => e = .returned (.bool ((nm && (decide (num ≥ 0) && (decide (num < 4) && (decide (off ≥ 1) && (decide (off ≤ 1073741824) && (([] : List UInt8) == data.toList)))))))) ∧ Below w.heap.size w w' := by
  have hu := Try.underlying27
  have hz := Try.zeroValue27
  have HNM := Aside0.mk hn
  have HUO := Aside0.mk (small_eq1 off)
  have HUN := Aside0.mk (small_eq1 num)
  clear hn
  generalize smB off = uo at *
  generalize smB num = un at *
  generalize hn0 : decide (num ≥ 0) = n0 at *
  generalize hn4 : decide (num < 4) = n4 at *
  generalize ho1 : decide (off ≥ 1) = o1 at *
  generalize ho9 : decide (off ≤ 1073741824) = o9 at *
  generalize hzd : (([] : List UInt8) == data.toList) = zd at *
  cases nm with
  | false =>
    go_enter Try.func38, Try.ntmps38
    go_wp2_with (first
      | (go_at_call_of 60 off; refine (object_small.calls off _ _ HUO.out).mono ?_; rintro e' w1 ⟨rfl, hD⟩; obtain ⟨n1, rfl⟩ := hD.out; clear hD)
      | (go_at_call_of 60 num; refine (object_small.calls num _ _ HUN.out).mono ?_; rintro e' w2 ⟨rfl, hD⟩; obtain ⟨n2, rfl⟩ := hD.out; clear hD)
      | (go_at_call 59; refine (object_Name.calls k s _ _ HNM.out).mono ?_; rintro e' w3 ⟨rfl, hD⟩; obtain ⟨n3, rfl⟩ := hD.out; clear hD))
    go_region
    go_wp2_with (first
      | (go_at_call_of 60 off; refine (object_small.calls off _ _ HUO.out).mono ?_; rintro e' w1 ⟨rfl, hD⟩; obtain ⟨n1, rfl⟩ := hD.out; clear hD)
      | (go_at_call_of 60 num; refine (object_small.calls num _ _ HUN.out).mono ?_; rintro e' w2 ⟨rfl, hD⟩; obtain ⟨n2, rfl⟩ := hD.out; clear hD)
      | (go_at_call 59; refine (object_Name.calls k s _ _ HNM.out).mono ?_; rintro e' w3 ⟨rfl, hD⟩; obtain ⟨n3, rfl⟩ := hD.out; clear hD))
    go_ret
    refine ⟨rfl, ?_⟩
    repeat (first | exact Below.refl _ _ | refine pw_below_drewN ?_ _ | refine Below.drew ?_ | refine below_alloc ?_ _ | refine Below.setCell ?_ (by show w.heap.size ≤ w.heap.size + 1; omega) _)
  | true =>
    cases n0 with
    | false =>
      go_enter Try.func38, Try.ntmps38
      go_wp2_with (first
        | (go_at_call_of 60 off; refine (object_small.calls off _ _ HUO.out).mono ?_; rintro e' w1 ⟨rfl, hD⟩; obtain ⟨n1, rfl⟩ := hD.out; clear hD)
        | (go_at_call_of 60 num; refine (object_small.calls num _ _ HUN.out).mono ?_; rintro e' w2 ⟨rfl, hD⟩; obtain ⟨n2, rfl⟩ := hD.out; clear hD)
        | (go_at_call 59; refine (object_Name.calls k s _ _ HNM.out).mono ?_; rintro e' w3 ⟨rfl, hD⟩; obtain ⟨n3, rfl⟩ := hD.out; clear hD))
      go_region
      go_wp2_with (first
        | (go_at_call_of 60 off; refine (object_small.calls off _ _ HUO.out).mono ?_; rintro e' w1 ⟨rfl, hD⟩; obtain ⟨n1, rfl⟩ := hD.out; clear hD)
        | (go_at_call_of 60 num; refine (object_small.calls num _ _ HUN.out).mono ?_; rintro e' w2 ⟨rfl, hD⟩; obtain ⟨n2, rfl⟩ := hD.out; clear hD)
        | (go_at_call 59; refine (object_Name.calls k s _ _ HNM.out).mono ?_; rintro e' w3 ⟨rfl, hD⟩; obtain ⟨n3, rfl⟩ := hD.out; clear hD))
      go_ret
      refine ⟨rfl, ?_⟩
      repeat (first | exact Below.refl _ _ | refine pw_below_drewN ?_ _ | refine Below.drew ?_ | refine below_alloc ?_ _ | refine Below.setCell ?_ (by show w.heap.size ≤ w.heap.size + 1; omega) _)
    | true =>
      cases n4 with
      | false =>
        go_enter Try.func38, Try.ntmps38
        go_wp2_with (first
          | (go_at_call_of 60 off; refine (object_small.calls off _ _ HUO.out).mono ?_; rintro e' w1 ⟨rfl, hD⟩; obtain ⟨n1, rfl⟩ := hD.out; clear hD)
          | (go_at_call_of 60 num; refine (object_small.calls num _ _ HUN.out).mono ?_; rintro e' w2 ⟨rfl, hD⟩; obtain ⟨n2, rfl⟩ := hD.out; clear hD)
          | (go_at_call 59; refine (object_Name.calls k s _ _ HNM.out).mono ?_; rintro e' w3 ⟨rfl, hD⟩; obtain ⟨n3, rfl⟩ := hD.out; clear hD))
        go_region
        go_wp2_with (first
          | (go_at_call_of 60 off; refine (object_small.calls off _ _ HUO.out).mono ?_; rintro e' w1 ⟨rfl, hD⟩; obtain ⟨n1, rfl⟩ := hD.out; clear hD)
          | (go_at_call_of 60 num; refine (object_small.calls num _ _ HUN.out).mono ?_; rintro e' w2 ⟨rfl, hD⟩; obtain ⟨n2, rfl⟩ := hD.out; clear hD)
          | (go_at_call 59; refine (object_Name.calls k s _ _ HNM.out).mono ?_; rintro e' w3 ⟨rfl, hD⟩; obtain ⟨n3, rfl⟩ := hD.out; clear hD))
        go_ret
        refine ⟨rfl, ?_⟩
        repeat (first | exact Below.refl _ _ | refine pw_below_drewN ?_ _ | refine Below.drew ?_ | refine below_alloc ?_ _ | refine Below.setCell ?_ (by show w.heap.size ≤ w.heap.size + 1; omega) _)
      | true =>
        cases o1 with
        | false =>
          go_enter Try.func38, Try.ntmps38
          go_wp2_with (first
            | (go_at_call_of 60 off; refine (object_small.calls off _ _ HUO.out).mono ?_; rintro e' w1 ⟨rfl, hD⟩; obtain ⟨n1, rfl⟩ := hD.out; clear hD)
            | (go_at_call_of 60 num; refine (object_small.calls num _ _ HUN.out).mono ?_; rintro e' w2 ⟨rfl, hD⟩; obtain ⟨n2, rfl⟩ := hD.out; clear hD)
            | (go_at_call 59; refine (object_Name.calls k s _ _ HNM.out).mono ?_; rintro e' w3 ⟨rfl, hD⟩; obtain ⟨n3, rfl⟩ := hD.out; clear hD))
          go_region
          go_wp2_with (first
            | (go_at_call_of 60 off; refine (object_small.calls off _ _ HUO.out).mono ?_; rintro e' w1 ⟨rfl, hD⟩; obtain ⟨n1, rfl⟩ := hD.out; clear hD)
            | (go_at_call_of 60 num; refine (object_small.calls num _ _ HUN.out).mono ?_; rintro e' w2 ⟨rfl, hD⟩; obtain ⟨n2, rfl⟩ := hD.out; clear hD)
            | (go_at_call 59; refine (object_Name.calls k s _ _ HNM.out).mono ?_; rintro e' w3 ⟨rfl, hD⟩; obtain ⟨n3, rfl⟩ := hD.out; clear hD))
          go_ret
          refine ⟨rfl, ?_⟩
          repeat (first | exact Below.refl _ _ | refine pw_below_drewN ?_ _ | refine Below.drew ?_ | refine below_alloc ?_ _ | refine Below.setCell ?_ (by show w.heap.size ≤ w.heap.size + 1; omega) _)
        | true =>
          cases o9 with
          | false =>
            go_enter Try.func38, Try.ntmps38
            go_wp2_with (first
              | (go_at_call_of 60 off; refine (object_small.calls off _ _ HUO.out).mono ?_; rintro e' w1 ⟨rfl, hD⟩; obtain ⟨n1, rfl⟩ := hD.out; clear hD)
              | (go_at_call_of 60 num; refine (object_small.calls num _ _ HUN.out).mono ?_; rintro e' w2 ⟨rfl, hD⟩; obtain ⟨n2, rfl⟩ := hD.out; clear hD)
              | (go_at_call 59; refine (object_Name.calls k s _ _ HNM.out).mono ?_; rintro e' w3 ⟨rfl, hD⟩; obtain ⟨n3, rfl⟩ := hD.out; clear hD))
            go_region
            go_wp2_with (first
              | (go_at_call_of 60 off; refine (object_small.calls off _ _ HUO.out).mono ?_; rintro e' w1 ⟨rfl, hD⟩; obtain ⟨n1, rfl⟩ := hD.out; clear hD)
              | (go_at_call_of 60 num; refine (object_small.calls num _ _ HUN.out).mono ?_; rintro e' w2 ⟨rfl, hD⟩; obtain ⟨n2, rfl⟩ := hD.out; clear hD)
              | (go_at_call 59; refine (object_Name.calls k s _ _ HNM.out).mono ?_; rintro e' w3 ⟨rfl, hD⟩; obtain ⟨n3, rfl⟩ := hD.out; clear hD))
            go_ret
            refine ⟨rfl, ?_⟩
            repeat (first | exact Below.refl _ _ | refine pw_below_drewN ?_ _ | refine Below.drew ?_ | refine below_alloc ?_ _ | refine Below.setCell ?_ (by show w.heap.size ≤ w.heap.size + 1; omega) _)
          | true =>
            cases zd with
            | false =>
              go_enter Try.func38, Try.ntmps38
              go_wp2_with (first
                | (go_at_call_of 60 off; refine (object_small.calls off _ _ HUO.out).mono ?_; rintro e' w1 ⟨rfl, hD⟩; obtain ⟨n1, rfl⟩ := hD.out; clear hD)
                | (go_at_call_of 60 num; refine (object_small.calls num _ _ HUN.out).mono ?_; rintro e' w2 ⟨rfl, hD⟩; obtain ⟨n2, rfl⟩ := hD.out; clear hD)
                | (go_at_call 59; refine (object_Name.calls k s _ _ HNM.out).mono ?_; rintro e' w3 ⟨rfl, hD⟩; obtain ⟨n3, rfl⟩ := hD.out; clear hD))
              go_region
              go_wp2_with (first
                | (go_at_call_of 60 off; refine (object_small.calls off _ _ HUO.out).mono ?_; rintro e' w1 ⟨rfl, hD⟩; obtain ⟨n1, rfl⟩ := hD.out; clear hD)
                | (go_at_call_of 60 num; refine (object_small.calls num _ _ HUN.out).mono ?_; rintro e' w2 ⟨rfl, hD⟩; obtain ⟨n2, rfl⟩ := hD.out; clear hD)
                | (go_at_call 59; refine (object_Name.calls k s _ _ HNM.out).mono ?_; rintro e' w3 ⟨rfl, hD⟩; obtain ⟨n3, rfl⟩ := hD.out; clear hD))
              go_ret
              refine ⟨rfl, ?_⟩
              repeat (first | exact Below.refl _ _ | refine pw_below_drewN ?_ _ | refine Below.drew ?_ | refine below_alloc ?_ _ | refine Below.setCell ?_ (by show w.heap.size ≤ w.heap.size + 1; omega) _)
            | true =>
              go_enter Try.func38, Try.ntmps38
              go_wp2_with (first
                | (go_at_call_of 60 off; refine (object_small.calls off _ _ HUO.out).mono ?_; rintro e' w1 ⟨rfl, hD⟩; obtain ⟨n1, rfl⟩ := hD.out; clear hD)
                | (go_at_call_of 60 num; refine (object_small.calls num _ _ HUN.out).mono ?_; rintro e' w2 ⟨rfl, hD⟩; obtain ⟨n2, rfl⟩ := hD.out; clear hD)
                | (go_at_call 59; refine (object_Name.calls k s _ _ HNM.out).mono ?_; rintro e' w3 ⟨rfl, hD⟩; obtain ⟨n3, rfl⟩ := hD.out; clear hD))
              go_region
              go_wp2_with (first
                | (go_at_call_of 60 off; refine (object_small.calls off _ _ HUO.out).mono ?_; rintro e' w1 ⟨rfl, hD⟩; obtain ⟨n1, rfl⟩ := hD.out; clear hD)
                | (go_at_call_of 60 num; refine (object_small.calls num _ _ HUN.out).mono ?_; rintro e' w2 ⟨rfl, hD⟩; obtain ⟨n2, rfl⟩ := hD.out; clear hD)
                | (go_at_call 59; refine (object_Name.calls k s _ _ HNM.out).mono ?_; rintro e' w3 ⟨rfl, hD⟩; obtain ⟨n3, rfl⟩ := hD.out; clear hD))
              go_ret
              refine ⟨rfl, ?_⟩
              repeat (first | exact Below.refl _ _ | refine pw_below_drewN ?_ _ | refine Below.drew ?_ | refine below_alloc ?_ _ | refine Below.setCell ?_ (by show w.heap.size ≤ w.heap.size + 1; omega) _)
set_option maxHeartbeats 8000000 in
set_option maxRecDepth 100000 in
theorem oop_other (k : Nat) (nm : Bool) (s : ByteArray) (off num : Int) (data : ByteArray) (w : World) (hn : object_Name.f k s = some nm) (kd : Int) (h1 : (kd == 1) = false) (h2 : (kd == 2) = false) (h3 : (kd == 3) = false) (h4 : (kd == 4) = false) (h5 : (kd == 5) = false) (h6 : (kd == 6) = false) (h7 : (kd == 7) = false) (h8 : (kd == 8) = false) (h9 : (kd == 9) = false) (h10 : (kd == 10) = false) :
    Calls Try.prog 38 #[.agg #[.int .i64 kd, .string s, .int .i64 off, .int .i64 num, .string data]] w fun e w' => e = .returned (.bool (false)) ∧ Below w.heap.size w w' := by
  have hu := Try.underlying27
  have hz := Try.zeroValue27
  have HNM := Aside0.mk hn
  have HUO := Aside0.mk (small_eq1 off)
  have HUN := Aside0.mk (small_eq1 num)
  clear hn
  generalize smB off = uo at *
  generalize smB num = un at *
  go_enter Try.func38, Try.ntmps38
  go_wp2_with (first
    | (go_at_call_of 60 off; refine (object_small.calls off _ _ HUO.out).mono ?_; rintro e' w1 ⟨rfl, hD⟩; obtain ⟨n1, rfl⟩ := hD.out; clear hD)
    | (go_at_call_of 60 num; refine (object_small.calls num _ _ HUN.out).mono ?_; rintro e' w2 ⟨rfl, hD⟩; obtain ⟨n2, rfl⟩ := hD.out; clear hD)
    | (go_at_call 59; refine (object_Name.calls k s _ _ HNM.out).mono ?_; rintro e' w3 ⟨rfl, hD⟩; obtain ⟨n3, rfl⟩ := hD.out; clear hD))
  go_ret
  refine ⟨rfl, ?_⟩
  repeat (first | exact Below.refl _ _ | refine pw_below_drewN ?_ _ | refine Below.drew ?_ | refine below_alloc ?_ _ | refine Below.setCell ?_ (by show w.heap.size ≤ w.heap.size + 1; omega) _)
def opW (kd : Int) (nm : Bool) (s : ByteArray) (off num : Int) (data : ByteArray) : Bool :=
  if kd = 1 then (nm && (smB off && (decide (data.size ≤ 64) && (0 == num)))) else
  if kd = 2 then (nm && (smB off && (smB num && (([] : List UInt8) == data.toList)))) else
  if kd = 5 then (nm && (smB off && (smB num && (([] : List UInt8) == data.toList)))) else
  if kd = 3 then (nm && (smB num && ((0 == off) && (([] : List UInt8) == data.toList)))) else
  if kd = 9 then (nm && (decide (num ≥ 0) && (decide (num < 4) && (decide (off ≥ 1) && (decide (off ≤ 1073741824) && (([] : List UInt8) == data.toList)))))) else
  if kd = 4 then (nm && ((0 == off) && ((0 == num) && (([] : List UInt8) == data.toList)))) else
  if kd = 6 then (nm && ((0 == off) && ((0 == num) && (([] : List UInt8) == data.toList)))) else
  if kd = 7 then (nm && ((0 == off) && ((0 == num) && (([] : List UInt8) == data.toList)))) else
  if kd = 8 then (nm && ((0 == off) && ((0 == num) && (([] : List UInt8) == data.toList)))) else
  if kd = 10 then (s.toList.isEmpty && ((0 == off) && ((0 == num) && (([] : List UInt8) == data.toList)))) else
  false
def object_Op.f (k : Nat) (a0_0 : Int) (a0_1 : ByteArray) (a0_2 : Int) (a0_3 : Int) (a0_4 : ByteArray) : Option Bool := (object_Name.f k a0_1).bind fun nm => some (opW a0_0 nm a0_1 a0_2 a0_3 a0_4)
theorem object_Op.calls (k : Nat) (a0_0 : Int) (a0_1 : ByteArray) (a0_2 : Int) (a0_3 : Int) (a0_4 : ByteArray) (r : Bool) (w : World) (h : object_Op.f k a0_0 a0_1 a0_2 a0_3 a0_4 = some r) :
    Calls Try.prog 38 #[.agg #[.int .i64 a0_0, .string a0_1, .int .i64 a0_2, .int .i64 a0_3, .string a0_4]] w fun e w' => e = .returned (.bool r) ∧ Below w.heap.size w w' := by
  unfold object_Op.f at h
  cases hn : object_Name.f k a0_1 with
  | none => rw [hn] at h; cases h
  | some nm =>
    rw [hn, Option.bind_some] at h
    obtain rfl := Option.some.inj h
    clear h
    by_cases h1 : a0_0 = 1
    · subst h1; exact oop_1 k nm a0_1 a0_2 a0_3 a0_4 w hn
    by_cases h2 : a0_0 = 2
    · subst h2; exact oop_2 k nm a0_1 a0_2 a0_3 a0_4 w hn
    by_cases h5 : a0_0 = 5
    · subst h5; exact oop_5 k nm a0_1 a0_2 a0_3 a0_4 w hn
    by_cases h3 : a0_0 = 3
    · subst h3; exact oop_3 k nm a0_1 a0_2 a0_3 a0_4 w hn
    by_cases h9 : a0_0 = 9
    · subst h9; exact oop_9 k nm a0_1 a0_2 a0_3 a0_4 w hn
    by_cases h4 : a0_0 = 4
    · subst h4; exact oop_4 k nm a0_1 a0_2 a0_3 a0_4 w hn
    by_cases h6 : a0_0 = 6
    · subst h6; exact oop_6 k nm a0_1 a0_2 a0_3 a0_4 w hn
    by_cases h7 : a0_0 = 7
    · subst h7; exact oop_7 k nm a0_1 a0_2 a0_3 a0_4 w hn
    by_cases h8 : a0_0 = 8
    · subst h8; exact oop_8 k nm a0_1 a0_2 a0_3 a0_4 w hn
    by_cases h10 : a0_0 = 10
    · subst h10; exact oop_10 k nm a0_1 a0_2 a0_3 a0_4 w hn
    have e : opW a0_0 nm a0_1 a0_2 a0_3 a0_4 = false := by unfold opW; rw [if_neg h1, if_neg h2, if_neg h5, if_neg h3, if_neg h9, if_neg h4, if_neg h6, if_neg h7, if_neg h8, if_neg h10]
    rw [e]
    exact oop_other k nm a0_1 a0_2 a0_3 a0_4 w hn a0_0 (beq_eq_false_iff_ne.2 h1) (beq_eq_false_iff_ne.2 h2) (beq_eq_false_iff_ne.2 h3) (beq_eq_false_iff_ne.2 h4) (beq_eq_false_iff_ne.2 h5) (beq_eq_false_iff_ne.2 h6) (beq_eq_false_iff_ne.2 h7) (beq_eq_false_iff_ne.2 h8) (beq_eq_false_iff_ne.2 h9) (beq_eq_false_iff_ne.2 h10)
end Go.Proofs.Ytbdciklcckjknaa.P
