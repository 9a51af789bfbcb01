/- Texts of this claim, merged by pack.py: PObjectChanges PPglogWithin PPglogEntry -/
import Derived.Test.YtbdciklcckjknaaZT01
import Derived.Deep.RegionWith
import Derived.Test.YtbdciklcckjknaaZT02
namespace Go.Proofs.Ytbdciklcckjknaa.P
open Go.RowKit Go.Proofs.YtbdciklcckjknaaW.PrintWords Go.Proofs.YtbdciklcckjknaaW.PrintLast Go.Proofs.YtbdciklcckjknaaW.PrintMore
attribute [local go_sem] max2_int min2_int max_two min_two max_three min_three max_four min_four
set_option linter.unusedVariables false
set_option linter.unusedSimpArgs false
def object_Changes.f (a0 : Int) : Option (Bool) := if a0 ≥ 1 then (if a0 ≤ 4 then (some true) else (if a0 ≥ 7 then (some (decide (a0 ≤ 9))) else (some false))) else (if a0 ≥ 7 then (some (decide (a0 ≤ 9))) else (some false))
set_option maxHeartbeats 8000000 in
set_option maxRecDepth 100000 in
theorem object_Changes.calls (a0 : Int) (r : Bool) (w : World) (h : object_Changes.f a0 = some r) :
    Calls Try.prog 39 #[.int .i64 a0] w fun e w' => e = .returned (.bool r) ∧ Drawn0 w w' := by
  have H : (if a0 ≥ 1 then (if a0 ≤ 4 then (some true) else (if a0 ≥ 7 then (some (decide (a0 ≤ 9))) else (some false))) else (if a0 ≥ 7 then (some (decide (a0 ≤ 9))) else (some false))) = some r := h
  clear h
  by_cases c2 : a0 ≥ 1
  · rw [if_pos c2] at H
    have c2b0 : decide (1 ≤ a0) = true := decide_eq_true c2
    clear c2
    by_cases c3 : a0 ≤ 4
    · rw [if_pos c3] at H
      have c3b0 : decide (a0 ≤ 4) = true := decide_eq_true c3
      clear c3
      obtain rfl := Option.some.inj H
      go_enter Try.func39, Try.ntmps39
      go_wp2
      go_ret
      exact ⟨by first | rfl | (simp; done) | (simp [*]; done), by repeat (first | exact Drawn0.refl _ | apply Drawn0.step)⟩
    · rw [if_neg c3] at H
      have c3b0 : decide (a0 ≤ 4) = false := decide_eq_false c3
      clear c3
      by_cases c4 : a0 ≥ 7
      · rw [if_pos c4] at H
        have c4b0 : decide (7 ≤ a0) = true := decide_eq_true c4
        clear c4
        obtain rfl := Option.some.inj H
        go_enter Try.func39, Try.ntmps39
        go_wp2
        go_ret
        exact ⟨by first | rfl | (simp; done) | (simp [*]; done), by repeat (first | exact Drawn0.refl _ | apply Drawn0.step)⟩
      · rw [if_neg c4] at H
        have c4b0 : decide (7 ≤ a0) = false := decide_eq_false c4
        clear c4
        obtain rfl := Option.some.inj H
        go_enter Try.func39, Try.ntmps39
        go_wp2
        go_ret
        exact ⟨by first | rfl | (simp; done) | (simp [*]; done), by repeat (first | exact Drawn0.refl _ | apply Drawn0.step)⟩
  · rw [if_neg c2] at H
    have c2b0 : decide (1 ≤ a0) = false := decide_eq_false c2
    clear c2
    by_cases c5 : a0 ≥ 7
    · rw [if_pos c5] at H
      have c5b0 : decide (7 ≤ a0) = true := decide_eq_true c5
      clear c5
      obtain rfl := Option.some.inj H
      go_enter Try.func39, Try.ntmps39
      go_wp2
      go_ret
      exact ⟨by first | rfl | (simp; done) | (simp [*]; done), by repeat (first | exact Drawn0.refl _ | apply Drawn0.step)⟩
    · rw [if_neg c5] at H
      have c5b0 : decide (7 ≤ a0) = false := decide_eq_false c5
      clear c5
      obtain rfl := Option.some.inj H
      go_enter Try.func39, Try.ntmps39
      go_wp2
      go_ret
      exact ⟨by first | rfl | (simp; done) | (simp [*]; done), by repeat (first | exact Drawn0.refl _ | apply Drawn0.step)⟩
end Go.Proofs.Ytbdciklcckjknaa.P
namespace Go.Proofs.Ytbdciklcckjknaa.P
open Go.RowKit Go.Proofs.YtbdciklcckjknaaW.PrintWords Go.Proofs.YtbdciklcckjknaaW.PrintLast Go.Proofs.YtbdciklcckjknaaW.PrintMore
attribute [local go_sem] max2_int min2_int max_two min_two max_three min_three max_four min_four
set_option linter.unusedVariables false
set_option linter.unusedSimpArgs false
def pglog_within.f (a0 : Int) (a1 : Int) (a2 : Int) : Option (Bool) := if a0 ≥ a1 then (some (decide (a0 ≤ a2))) else (some false)
set_option maxHeartbeats 8000000 in
set_option maxRecDepth 100000 in
theorem pglog_within.calls (a0 : Int) (a1 : Int) (a2 : Int) (r : Bool) (w : World) (h : pglog_within.f a0 a1 a2 = some r) :
    Calls Try.prog 37 #[.int .i64 a0, .int .i64 a1, .int .i64 a2] w fun e w' => e = .returned (.bool r) ∧ Drawn0 w w' := by
  have H : (if a0 ≥ a1 then (some (decide (a0 ≤ a2))) else (some false)) = some r := h
  clear h
  by_cases c4 : a0 ≥ a1
  · rw [if_pos c4] at H
    have c4b0 : decide (a1 ≤ a0) = true := decide_eq_true c4
    clear c4
    obtain rfl := Option.some.inj H
    go_enter Try.func37, Try.ntmps37
    go_wp2
    go_ret
    exact ⟨by first | rfl | (simp; done) | (simp [*]; done), by repeat (first | exact Drawn0.refl _ | apply Drawn0.step)⟩
  · rw [if_neg c4] at H
    have c4b0 : decide (a1 ≤ a0) = false := decide_eq_false c4
    clear c4
    obtain rfl := Option.some.inj H
    go_enter Try.func37, Try.ntmps37
    go_wp2
    go_ret
    exact ⟨by first | rfl | (simp; done) | (simp [*]; done), by repeat (first | exact Drawn0.refl _ | apply Drawn0.step)⟩
end Go.Proofs.Ytbdciklcckjknaa.P
namespace Go.Proofs.Ytbdciklcckjknaa.P
open Go.RowKit Go.Proofs.YtbdciklcckjknaaW.PrintWords Go.Proofs.YtbdciklcckjknaaW.PrintLast Go.Proofs.YtbdciklcckjknaaW.PrintMore
set_option linter.unusedVariables false
set_option linter.unusedSimpArgs false
theorem ck1 {w w1 : World} {o1 o2 : Obj} (h : Below ((w.alloc o1).alloc o2).heap.size ((w.alloc o1).alloc o2) w1) :
    (∀ k, w1.cell? ⟨w.heap.size, k, none⟩ = ((w.alloc o1).alloc o2).cell? ⟨w.heap.size, k, none⟩) ∧ (∀ k, w1.cell? ⟨w.heap.size + 1, k, none⟩ = ((w.alloc o1).alloc o2).cell? ⟨w.heap.size + 1, k, none⟩) ∧ w.heap.size + 1 < w1.heap.size ∧ Below w.heap.size w w1 := by
  have hs := h.size
  rw [World.size_alloc, World.size_alloc] at hs
  refine ⟨fun k => h.cell (p := ⟨w.heap.size, k, none⟩) ?_, fun k => h.cell (p := ⟨w.heap.size + 1, k, none⟩) ?_, by omega, below_step (below_alloc (below_alloc (Below.refl _ _) _) _) h⟩
  · show w.heap.size < _
    rw [World.size_alloc, World.size_alloc]
    exact Nat.lt_of_lt_of_le (Nat.lt_succ_self _) (Nat.le_succ _)
  · show w.heap.size + 1 < _
    rw [World.size_alloc, World.size_alloc]
    exact Nat.lt_succ_self _
theorem ck2 {w w1 w2 : World} (z : w.heap.size + 1 < w1.heap.size) (hb : Below w.heap.size w w1) (h : Below w1.heap.size w1 w2) :
    (∀ k, w2.cell? ⟨w.heap.size, k, none⟩ = w1.cell? ⟨w.heap.size, k, none⟩) ∧ (∀ k, w2.cell? ⟨w.heap.size + 1, k, none⟩ = w1.cell? ⟨w.heap.size + 1, k, none⟩) ∧ w.heap.size + 1 < w2.heap.size ∧ Below w.heap.size w w2 :=
  ⟨fun k => h.cell (p := ⟨w.heap.size, k, none⟩) (by show w.heap.size < _; omega), fun k => h.cell (p := ⟨w.heap.size + 1, k, none⟩) (by show w.heap.size + 1 < _; omega), by have := h.size; omega, below_step hb h⟩
set_option maxHeartbeats 8000000 in
set_option maxRecDepth 100000 in
theorem entry_walk (k : Nat) (a0 a1 a2 a3 a4 a5 : Int) (a6 : ByteArray) (a7 a8 : Int) (a9 : ByteArray) (a10 a11 a12 : Int) (a13 : ByteArray) (w : World) (b0 b1 c2 c3 b4 b5 o ch : Bool)
    (h0 : pglog_within.f a0 1 1073741824 = some b0) (h1 : pglog_within.f a1 1 1099511627776 = some b1) (h2 : decide (a2 ≥ 0) = c2) (h3 : decide (a2 < 4) = c3) (h4 : pglog_within.f a3 1 1073741824 = some b4) (h5 : pglog_within.f a4 1 1073741824 = some b5)
    (ho : b0 = true → b1 = true → c2 = true → c3 = true → b4 = true → b5 = true → object_Op.f k a5 a6 a7 a8 a9 = some o) (hc : object_Changes.f a5 = some ch) :
    Calls Try.prog 22 #[.agg #[.int .i64 a0, .int .i64 a1, .int .i64 a2, .int .i64 a3, .int .i64 a4, .int .i64 a5, .string a6, .int .i64 a7, .int .i64 a8, .string a9, .int .i64 a10, .int .i64 a11, .int .i64 a12, .string a13]] w fun e w' => e = .returned (.bool (b0 && (b1 && (c2 && (c3 && (b4 && (b5 && (o && ch)))))))) ∧ Below w.heap.size w w' := by
  have hu := Try.underlying34
  have hu2 := Try.underlying29
  have hu3 := Try.underlying27
  have H0 := Aside0.mk h0
  have H1 := Aside0.mk h1
  have H4 := Aside0.mk h4
  have H5 := Aside0.mk h5
  have HO := Aside0.mk ho
  have HC := Aside0.mk hc
  clear h0 h1 h4 h5 ho hc
  cases b0 with
  | false =>
    go_enter Try.func22, Try.ntmps22
    go_wp2_with (first
      | (go_at_call_of 37 a0; refine (pglog_within.calls a0 1 1073741824 _ _ H0.out).mono ?_; rintro e' w1 ⟨rfl, hD⟩; have hW := hD.below; obtain ⟨ca1, cb1, z1, hB1⟩ := ck1 hW; have HB1 := Aside0.mk hB1; clear hW hD hB1)
      | (go_at_call_of 37 a1; refine (pglog_within.calls a1 1 1099511627776 _ _ H1.out).mono ?_; rintro e' w2 ⟨rfl, hD⟩; have hW := hD.below; obtain ⟨ca2, cb2, z2, hB2⟩ := ck2 z1 HB1.out hW; have HB2 := Aside0.mk hB2; clear hW hD hB2)
      | (go_at_call_of 37 a3; refine (pglog_within.calls a3 1 1073741824 _ _ H4.out).mono ?_; rintro e' w3 ⟨rfl, hD⟩; have hW := hD.below; obtain ⟨ca3, cb3, z3, hB3⟩ := ck2 z2 HB2.out hW; have HB3 := Aside0.mk hB3; clear hW hD hB3)
      | (go_at_call_of 37 a4; refine (pglog_within.calls a4 1 1073741824 _ _ H5.out).mono ?_; rintro e' w4 ⟨rfl, hD⟩; have hW := hD.below; obtain ⟨ca4, cb4, z4, hB4⟩ := ck2 z3 HB3.out hW; have HB4 := Aside0.mk hB4; clear hW hD hB4)
      | (go_at_call 38; refine (object_Op.calls k a5 a6 a7 a8 a9 _ _ HO2.out).mono ?_; rintro e' w5 ⟨rfl, hD⟩; have hW := hD; obtain ⟨ca5, cb5, z5, hB5⟩ := ck2 z4 HB4.out hW; have HB5 := Aside0.mk hB5; clear hW hD hB5)
      | (go_at_call 39; refine (object_Changes.calls a5 _ _ HC.out).mono ?_; rintro e' w6 ⟨rfl, hD⟩; have hW := hD.below; obtain ⟨ca6, cb6, z6, hB6⟩ := ck2 z5 HB5.out hW; have HB6 := Aside0.mk hB6; clear hW hD hB6))
    go_ret
    exact ⟨rfl, HB1.out⟩
  | true =>
    cases b1 with
    | false =>
      go_enter Try.func22, Try.ntmps22
      go_wp2_with (first
        | (go_at_call_of 37 a0; refine (pglog_within.calls a0 1 1073741824 _ _ H0.out).mono ?_; rintro e' w1 ⟨rfl, hD⟩; have hW := hD.below; obtain ⟨ca1, cb1, z1, hB1⟩ := ck1 hW; have HB1 := Aside0.mk hB1; clear hW hD hB1)
        | (go_at_call_of 37 a1; refine (pglog_within.calls a1 1 1099511627776 _ _ H1.out).mono ?_; rintro e' w2 ⟨rfl, hD⟩; have hW := hD.below; obtain ⟨ca2, cb2, z2, hB2⟩ := ck2 z1 HB1.out hW; have HB2 := Aside0.mk hB2; clear hW hD hB2)
        | (go_at_call_of 37 a3; refine (pglog_within.calls a3 1 1073741824 _ _ H4.out).mono ?_; rintro e' w3 ⟨rfl, hD⟩; have hW := hD.below; obtain ⟨ca3, cb3, z3, hB3⟩ := ck2 z2 HB2.out hW; have HB3 := Aside0.mk hB3; clear hW hD hB3)
        | (go_at_call_of 37 a4; refine (pglog_within.calls a4 1 1073741824 _ _ H5.out).mono ?_; rintro e' w4 ⟨rfl, hD⟩; have hW := hD.below; obtain ⟨ca4, cb4, z4, hB4⟩ := ck2 z3 HB3.out hW; have HB4 := Aside0.mk hB4; clear hW hD hB4)
        | (go_at_call 38; refine (object_Op.calls k a5 a6 a7 a8 a9 _ _ HO2.out).mono ?_; rintro e' w5 ⟨rfl, hD⟩; have hW := hD; obtain ⟨ca5, cb5, z5, hB5⟩ := ck2 z4 HB4.out hW; have HB5 := Aside0.mk hB5; clear hW hD hB5)
        | (go_at_call 39; refine (object_Changes.calls a5 _ _ HC.out).mono ?_; rintro e' w6 ⟨rfl, hD⟩; have hW := hD.below; obtain ⟨ca6, cb6, z6, hB6⟩ := ck2 z5 HB5.out hW; have HB6 := Aside0.mk hB6; clear hW hD hB6))
      go_ret
      exact ⟨rfl, HB2.out⟩
    | true =>
      cases c2 with
      | false =>
        go_enter Try.func22, Try.ntmps22
        go_wp2_with (first
          | (go_at_call_of 37 a0; refine (pglog_within.calls a0 1 1073741824 _ _ H0.out).mono ?_; rintro e' w1 ⟨rfl, hD⟩; have hW := hD.below; obtain ⟨ca1, cb1, z1, hB1⟩ := ck1 hW; have HB1 := Aside0.mk hB1; clear hW hD hB1)
          | (go_at_call_of 37 a1; refine (pglog_within.calls a1 1 1099511627776 _ _ H1.out).mono ?_; rintro e' w2 ⟨rfl, hD⟩; have hW := hD.below; obtain ⟨ca2, cb2, z2, hB2⟩ := ck2 z1 HB1.out hW; have HB2 := Aside0.mk hB2; clear hW hD hB2)
          | (go_at_call_of 37 a3; refine (pglog_within.calls a3 1 1073741824 _ _ H4.out).mono ?_; rintro e' w3 ⟨rfl, hD⟩; have hW := hD.below; obtain ⟨ca3, cb3, z3, hB3⟩ := ck2 z2 HB2.out hW; have HB3 := Aside0.mk hB3; clear hW hD hB3)
          | (go_at_call_of 37 a4; refine (pglog_within.calls a4 1 1073741824 _ _ H5.out).mono ?_; rintro e' w4 ⟨rfl, hD⟩; have hW := hD.below; obtain ⟨ca4, cb4, z4, hB4⟩ := ck2 z3 HB3.out hW; have HB4 := Aside0.mk hB4; clear hW hD hB4)
          | (go_at_call 38; refine (object_Op.calls k a5 a6 a7 a8 a9 _ _ HO2.out).mono ?_; rintro e' w5 ⟨rfl, hD⟩; have hW := hD; obtain ⟨ca5, cb5, z5, hB5⟩ := ck2 z4 HB4.out hW; have HB5 := Aside0.mk hB5; clear hW hD hB5)
          | (go_at_call 39; refine (object_Changes.calls a5 _ _ HC.out).mono ?_; rintro e' w6 ⟨rfl, hD⟩; have hW := hD.below; obtain ⟨ca6, cb6, z6, hB6⟩ := ck2 z5 HB5.out hW; have HB6 := Aside0.mk hB6; clear hW hD hB6))
        go_ret
        exact ⟨rfl, HB2.out⟩
      | true =>
        cases c3 with
        | false =>
          go_enter Try.func22, Try.ntmps22
          go_wp2_with (first
            | (go_at_call_of 37 a0; refine (pglog_within.calls a0 1 1073741824 _ _ H0.out).mono ?_; rintro e' w1 ⟨rfl, hD⟩; have hW := hD.below; obtain ⟨ca1, cb1, z1, hB1⟩ := ck1 hW; have HB1 := Aside0.mk hB1; clear hW hD hB1)
            | (go_at_call_of 37 a1; refine (pglog_within.calls a1 1 1099511627776 _ _ H1.out).mono ?_; rintro e' w2 ⟨rfl, hD⟩; have hW := hD.below; obtain ⟨ca2, cb2, z2, hB2⟩ := ck2 z1 HB1.out hW; have HB2 := Aside0.mk hB2; clear hW hD hB2)
            | (go_at_call_of 37 a3; refine (pglog_within.calls a3 1 1073741824 _ _ H4.out).mono ?_; rintro e' w3 ⟨rfl, hD⟩; have hW := hD.below; obtain ⟨ca3, cb3, z3, hB3⟩ := ck2 z2 HB2.out hW; have HB3 := Aside0.mk hB3; clear hW hD hB3)
            | (go_at_call_of 37 a4; refine (pglog_within.calls a4 1 1073741824 _ _ H5.out).mono ?_; rintro e' w4 ⟨rfl, hD⟩; have hW := hD.below; obtain ⟨ca4, cb4, z4, hB4⟩ := ck2 z3 HB3.out hW; have HB4 := Aside0.mk hB4; clear hW hD hB4)
            | (go_at_call 38; refine (object_Op.calls k a5 a6 a7 a8 a9 _ _ HO2.out).mono ?_; rintro e' w5 ⟨rfl, hD⟩; have hW := hD; obtain ⟨ca5, cb5, z5, hB5⟩ := ck2 z4 HB4.out hW; have HB5 := Aside0.mk hB5; clear hW hD hB5)
            | (go_at_call 39; refine (object_Changes.calls a5 _ _ HC.out).mono ?_; rintro e' w6 ⟨rfl, hD⟩; have hW := hD.below; obtain ⟨ca6, cb6, z6, hB6⟩ := ck2 z5 HB5.out hW; have HB6 := Aside0.mk hB6; clear hW hD hB6))
          go_ret
          exact ⟨rfl, HB2.out⟩
        | true =>
          cases b4 with
          | false =>
            go_enter Try.func22, Try.ntmps22
            go_wp2_with (first
              | (go_at_call_of 37 a0; refine (pglog_within.calls a0 1 1073741824 _ _ H0.out).mono ?_; rintro e' w1 ⟨rfl, hD⟩; have hW := hD.below; obtain ⟨ca1, cb1, z1, hB1⟩ := ck1 hW; have HB1 := Aside0.mk hB1; clear hW hD hB1)
              | (go_at_call_of 37 a1; refine (pglog_within.calls a1 1 1099511627776 _ _ H1.out).mono ?_; rintro e' w2 ⟨rfl, hD⟩; have hW := hD.below; obtain ⟨ca2, cb2, z2, hB2⟩ := ck2 z1 HB1.out hW; have HB2 := Aside0.mk hB2; clear hW hD hB2)
              | (go_at_call_of 37 a3; refine (pglog_within.calls a3 1 1073741824 _ _ H4.out).mono ?_; rintro e' w3 ⟨rfl, hD⟩; have hW := hD.below; obtain ⟨ca3, cb3, z3, hB3⟩ := ck2 z2 HB2.out hW; have HB3 := Aside0.mk hB3; clear hW hD hB3)
              | (go_at_call_of 37 a4; refine (pglog_within.calls a4 1 1073741824 _ _ H5.out).mono ?_; rintro e' w4 ⟨rfl, hD⟩; have hW := hD.below; obtain ⟨ca4, cb4, z4, hB4⟩ := ck2 z3 HB3.out hW; have HB4 := Aside0.mk hB4; clear hW hD hB4)
              | (go_at_call 38; refine (object_Op.calls k a5 a6 a7 a8 a9 _ _ HO2.out).mono ?_; rintro e' w5 ⟨rfl, hD⟩; have hW := hD; obtain ⟨ca5, cb5, z5, hB5⟩ := ck2 z4 HB4.out hW; have HB5 := Aside0.mk hB5; clear hW hD hB5)
              | (go_at_call 39; refine (object_Changes.calls a5 _ _ HC.out).mono ?_; rintro e' w6 ⟨rfl, hD⟩; have hW := hD.below; obtain ⟨ca6, cb6, z6, hB6⟩ := ck2 z5 HB5.out hW; have HB6 := Aside0.mk hB6; clear hW hD hB6))
            go_ret
            exact ⟨rfl, HB3.out⟩
          | true =>
            cases b5 with
            | false =>
              go_enter Try.func22, Try.ntmps22
              go_wp2_with (first
                | (go_at_call_of 37 a0; refine (pglog_within.calls a0 1 1073741824 _ _ H0.out).mono ?_; rintro e' w1 ⟨rfl, hD⟩; have hW := hD.below; obtain ⟨ca1, cb1, z1, hB1⟩ := ck1 hW; have HB1 := Aside0.mk hB1; clear hW hD hB1)
                | (go_at_call_of 37 a1; refine (pglog_within.calls a1 1 1099511627776 _ _ H1.out).mono ?_; rintro e' w2 ⟨rfl, hD⟩; have hW := hD.below; obtain ⟨ca2, cb2, z2, hB2⟩ := ck2 z1 HB1.out hW; have HB2 := Aside0.mk hB2; clear hW hD hB2)
                | (go_at_call_of 37 a3; refine (pglog_within.calls a3 1 1073741824 _ _ H4.out).mono ?_; rintro e' w3 ⟨rfl, hD⟩; have hW := hD.below; obtain ⟨ca3, cb3, z3, hB3⟩ := ck2 z2 HB2.out hW; have HB3 := Aside0.mk hB3; clear hW hD hB3)
                | (go_at_call_of 37 a4; refine (pglog_within.calls a4 1 1073741824 _ _ H5.out).mono ?_; rintro e' w4 ⟨rfl, hD⟩; have hW := hD.below; obtain ⟨ca4, cb4, z4, hB4⟩ := ck2 z3 HB3.out hW; have HB4 := Aside0.mk hB4; clear hW hD hB4)
                | (go_at_call 38; refine (object_Op.calls k a5 a6 a7 a8 a9 _ _ HO2.out).mono ?_; rintro e' w5 ⟨rfl, hD⟩; have hW := hD; obtain ⟨ca5, cb5, z5, hB5⟩ := ck2 z4 HB4.out hW; have HB5 := Aside0.mk hB5; clear hW hD hB5)
                | (go_at_call 39; refine (object_Changes.calls a5 _ _ HC.out).mono ?_; rintro e' w6 ⟨rfl, hD⟩; have hW := hD.below; obtain ⟨ca6, cb6, z6, hB6⟩ := ck2 z5 HB5.out hW; have HB6 := Aside0.mk hB6; clear hW hD hB6))
              go_ret
              exact ⟨rfl, HB4.out⟩
            | true =>
              have HO2 := Aside0.mk (HO.out rfl rfl rfl rfl rfl rfl)
              clear HO
              cases o with
              | false =>
                go_enter Try.func22, Try.ntmps22
                go_wp2_with (first
                  | (go_at_call_of 37 a0; refine (pglog_within.calls a0 1 1073741824 _ _ H0.out).mono ?_; rintro e' w1 ⟨rfl, hD⟩; have hW := hD.below; obtain ⟨ca1, cb1, z1, hB1⟩ := ck1 hW; have HB1 := Aside0.mk hB1; clear hW hD hB1)
                  | (go_at_call_of 37 a1; refine (pglog_within.calls a1 1 1099511627776 _ _ H1.out).mono ?_; rintro e' w2 ⟨rfl, hD⟩; have hW := hD.below; obtain ⟨ca2, cb2, z2, hB2⟩ := ck2 z1 HB1.out hW; have HB2 := Aside0.mk hB2; clear hW hD hB2)
                  | (go_at_call_of 37 a3; refine (pglog_within.calls a3 1 1073741824 _ _ H4.out).mono ?_; rintro e' w3 ⟨rfl, hD⟩; have hW := hD.below; obtain ⟨ca3, cb3, z3, hB3⟩ := ck2 z2 HB2.out hW; have HB3 := Aside0.mk hB3; clear hW hD hB3)
                  | (go_at_call_of 37 a4; refine (pglog_within.calls a4 1 1073741824 _ _ H5.out).mono ?_; rintro e' w4 ⟨rfl, hD⟩; have hW := hD.below; obtain ⟨ca4, cb4, z4, hB4⟩ := ck2 z3 HB3.out hW; have HB4 := Aside0.mk hB4; clear hW hD hB4)
                  | (go_at_call 38; refine (object_Op.calls k a5 a6 a7 a8 a9 _ _ HO2.out).mono ?_; rintro e' w5 ⟨rfl, hD⟩; have hW := hD; obtain ⟨ca5, cb5, z5, hB5⟩ := ck2 z4 HB4.out hW; have HB5 := Aside0.mk hB5; clear hW hD hB5)
                  | (go_at_call 39; refine (object_Changes.calls a5 _ _ HC.out).mono ?_; rintro e' w6 ⟨rfl, hD⟩; have hW := hD.below; obtain ⟨ca6, cb6, z6, hB6⟩ := ck2 z5 HB5.out hW; have HB6 := Aside0.mk hB6; clear hW hD hB6))
                go_ret
                exact ⟨rfl, HB5.out⟩
              | true =>
                go_enter Try.func22, Try.ntmps22
                go_wp2_with (first
                  | (go_at_call_of 37 a0; refine (pglog_within.calls a0 1 1073741824 _ _ H0.out).mono ?_; rintro e' w1 ⟨rfl, hD⟩; have hW := hD.below; obtain ⟨ca1, cb1, z1, hB1⟩ := ck1 hW; have HB1 := Aside0.mk hB1; clear hW hD hB1)
                  | (go_at_call_of 37 a1; refine (pglog_within.calls a1 1 1099511627776 _ _ H1.out).mono ?_; rintro e' w2 ⟨rfl, hD⟩; have hW := hD.below; obtain ⟨ca2, cb2, z2, hB2⟩ := ck2 z1 HB1.out hW; have HB2 := Aside0.mk hB2; clear hW hD hB2)
                  | (go_at_call_of 37 a3; refine (pglog_within.calls a3 1 1073741824 _ _ H4.out).mono ?_; rintro e' w3 ⟨rfl, hD⟩; have hW := hD.below; obtain ⟨ca3, cb3, z3, hB3⟩ := ck2 z2 HB2.out hW; have HB3 := Aside0.mk hB3; clear hW hD hB3)
                  | (go_at_call_of 37 a4; refine (pglog_within.calls a4 1 1073741824 _ _ H5.out).mono ?_; rintro e' w4 ⟨rfl, hD⟩; have hW := hD.below; obtain ⟨ca4, cb4, z4, hB4⟩ := ck2 z3 HB3.out hW; have HB4 := Aside0.mk hB4; clear hW hD hB4)
                  | (go_at_call 38; refine (object_Op.calls k a5 a6 a7 a8 a9 _ _ HO2.out).mono ?_; rintro e' w5 ⟨rfl, hD⟩; have hW := hD; obtain ⟨ca5, cb5, z5, hB5⟩ := ck2 z4 HB4.out hW; have HB5 := Aside0.mk hB5; clear hW hD hB5)
                  | (go_at_call 39; refine (object_Changes.calls a5 _ _ HC.out).mono ?_; rintro e' w6 ⟨rfl, hD⟩; have hW := hD.below; obtain ⟨ca6, cb6, z6, hB6⟩ := ck2 z5 HB5.out hW; have HB6 := Aside0.mk hB6; clear hW hD hB6))
                go_ret
                exact ⟨rfl, HB6.out⟩
def pglog_Entry.f (k : Nat) (a0 : Int) (a1 : Int) (a2 : Int) (a3 : Int) (a4 : Int) (a5 : Int) (a6 : ByteArray) (a7 : Int) (a8 : Int) (a9 : ByteArray) (a10 : Int) (a11 : Int) (a12 : Int) (a13 : ByteArray) : Option Bool :=
  (pglog_within.f a0 1 1073741824).bind fun t112 => (if t112 = true then ((pglog_within.f a1 1 1099511627776).bind fun t113 => (if t113 = true then (if a2 ≥ 0 then (if a2 < 4 then ((pglog_within.f a3 1 1073741824).bind fun t114 => (if t114 = true then ((pglog_within.f a4 1 1073741824).bind fun t115 => (if t115 = true then ((object_Op.f k a5 a6 a7 a8 a9).bind fun t116 => (if t116 = true then ((object_Changes.f a5).bind fun t117 => (some t117)) else (some false))) else (some false))) else (some false))) else (some false)) else (some false)) else (some false))) else (some false))
theorem pglog_Entry.calls (k : Nat) (a0 : Int) (a1 : Int) (a2 : Int) (a3 : Int) (a4 : Int) (a5 : Int) (a6 : ByteArray) (a7 : Int) (a8 : Int) (a9 : ByteArray) (a10 : Int) (a11 : Int) (a12 : Int) (a13 : ByteArray) (r : Bool) (w : World) (h : pglog_Entry.f k a0 a1 a2 a3 a4 a5 a6 a7 a8 a9 a10 a11 a12 a13 = some r) :
    Calls Try.prog 22 #[.agg #[.int .i64 a0, .int .i64 a1, .int .i64 a2, .int .i64 a3, .int .i64 a4, .int .i64 a5, .string a6, .int .i64 a7, .int .i64 a8, .string a9, .int .i64 a10, .int .i64 a11, .int .i64 a12, .string a13]] w fun e w' => e = .returned (.bool r) ∧ Below w.heap.size w w' := by
  obtain ⟨b0, h0⟩ : ∃ b, pglog_within.f a0 1 1073741824 = some b := by unfold pglog_within.f; split <;> exact ⟨_, rfl⟩
  obtain ⟨b1, h1⟩ : ∃ b, pglog_within.f a1 1 1099511627776 = some b := by unfold pglog_within.f; split <;> exact ⟨_, rfl⟩
  obtain ⟨b4, h4⟩ : ∃ b, pglog_within.f a3 1 1073741824 = some b := by unfold pglog_within.f; split <;> exact ⟨_, rfl⟩
  obtain ⟨b5, h5⟩ : ∃ b, pglog_within.f a4 1 1073741824 = some b := by unfold pglog_within.f; split <;> exact ⟨_, rfl⟩
  obtain ⟨ch, hc⟩ : ∃ b, object_Changes.f a5 = some b := by unfold object_Changes.f; repeat' (first | exact ⟨_, rfl⟩ | split)
  obtain ⟨o, ho⟩ : ∃ o, o = (object_Op.f k a5 a6 a7 a8 a9).getD false := ⟨_, rfl⟩
  have key : (b0 = true → b1 = true → decide (a2 ≥ 0) = true → decide (a2 < 4) = true → b4 = true → b5 = true → object_Op.f k a5 a6 a7 a8 a9 = some o) ∧ r = (b0 && (b1 && (decide (a2 ≥ 0) && (decide (a2 < 4) && (b4 && (b5 && (o && ch))))))) := by
    unfold pglog_Entry.f at h
    simp only [h0, h1, h4, h5, hc, Option.bind_some] at h
    cases hop : object_Op.f k a5 a6 a7 a8 a9 with
    | none =>
      rw [hop] at h ho
      by_cases c2 : a2 ≥ 0 <;> by_cases c3 : a2 < 4 <;> cases b0 <;> cases b1 <;> cases b4 <;> cases b5 <;> simp [c2, c3] at h ⊢ <;> assumption
    | some o' =>
      rw [hop] at h ho
      obtain rfl : o = o' := ho
      by_cases c2 : a2 ≥ 0 <;> by_cases c3 : a2 < 4 <;> cases b0 <;> cases b1 <;> cases b4 <;> cases b5 <;> cases o <;> simp [c2, c3] at h ⊢ <;> simp [h]
  have hw := entry_walk k a0 a1 a2 a3 a4 a5 a6 a7 a8 a9 a10 a11 a12 a13 w b0 b1 _ _ b4 b5 o ch h0 h1 rfl rfl h4 h5 key.1 hc
  rw [← key.2] at hw
  exact hw
end Go.Proofs.Ytbdciklcckjknaa.P
