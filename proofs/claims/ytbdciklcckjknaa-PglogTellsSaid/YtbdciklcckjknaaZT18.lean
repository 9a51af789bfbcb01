/- Texts of this claim, merged by pack.py: PReefref19Same PReefref20Same PReefref21Same PReefref21Shards Q10 Shelf HSS B2 -/
import Derived.Test.YtbdciklcckjknaaZT01
import Derived.Test.YtbdciklcckjknaaZT17
import Derived.Test.YtbdciklcckjknaaZT08
import Derived.Test.YtbdciklcckjknaaZT10
import Derived.Test.YtbdciklcckjknaaZT16
import Derived.Shelf.Small.Bits
import Derived.Shelf.Strconv.Itoa0
import Derived.Shelf.Sort.Plain
import Derived.Shelf.Slices.CompactS
import Derived.Shelf.Slices.Cells
import Derived.Shelf.Slices.In.SortNone
import Derived.Test.YtbdciklcckjknaaProg
import Derived.Sort.OwnSorted
namespace Go.Proofs.Ytbdciklcckjknaa.P
open Go.RowKit Go.Proofs.YtbdciklcckjknaaW.PrintWords Go.Proofs.YtbdciklcckjknaaW.PrintLast Go.Proofs.YtbdciklcckjknaaW.PrintMore
attribute [local go_sem] max2_int min2_int max_two min_two max_three min_three max_four min_four
set_option linter.unusedVariables false
set_option linter.unusedSimpArgs false
attribute [local go_sem high] eqA24 eqA51 eqA73 eqA83
def reefref19_Same.l0 : Nat → List (S83) → List (S83) → Int → Option (Bool)
  | 0, _, _, _ => none
  | k + 1, x0, x1, x5 => if x5 < (x0.length : Int) then (if 0 ≤ x5 then (if x5 < (x1.length : Int) then (if (!((((rd_T83 x0 x5).f0).toList) == (((rd_T83 x1 x5).f0).toList)) || (!((((rd_T83 x0 x5).f1).toList) == (((rd_T83 x1 x5).f1).toList)) || (!(((rd_T83 x0 x5).f2) == ((rd_T83 x1 x5).f2)) || ((!(((rd_T83 x0 x5).f3.f0) == ((rd_T83 x1 x5).f3.f0)) || (!(((rd_T83 x0 x5).f3.f1) == ((rd_T83 x1 x5).f3.f1)))))))) = true then (some false) else (reefref19_Same.l0 k x0 x1 (wrap64 (x5 + 1)))) else (none)) else (none)) else (some true)
def reefref19_Same.f (k : Nat) (l0 : List (S83)) (l1 : List (S83)) : Option (Bool) := if (l0.length : Int) = (l1.length : Int) then (reefref19_Same.l0 k l0 l1 0) else (some false)
set_option maxHeartbeats 8000000 in
set_option maxRecDepth 100000 in
theorem reefref19_Same.calls (k : Nat) (A0 : Option Addr) (c0 : Nat) (l0 : List (S83)) (A1 : Option Addr) (c1 : Nat) (l1 : List (S83)) (r : Bool) (w : World) (hr0 : Kd.C k83 w A0 l0.length l0) (hc0 : l0.length ≤ c0) (hr1 : Kd.C k83 w A1 l1.length l1) (hc1 : l1.length ≤ c1) (h : reefref19_Same.f k l0 l1 = some r) :
    Calls Try.prog 53 #[.slice A0 l0.length c0, .slice A1 l1.length c1] w fun e w' => e = .returned (.bool r) ∧ Drawn0 w w' := by
  have hu83 := Try.underlying83
  have HR0 := Aside0.mk hr0
  have HC0 := Aside0.mk hc0
  clear hr0 hc0
  have HR1 := Aside0.mk hr1
  have HC1 := Aside0.mk hc1
  clear hr1 hc1
  have H : (if (l0.length : Int) = (l1.length : Int) then (reefref19_Same.l0 k l0 l1 0) else (some false)) = some r := h
  clear h
  by_cases c3 : (l0.length : Int) = (l1.length : Int)
  · rw [if_pos c3] at H
    have c3b0 : ((l0.length : Int) == (l1.length : Int)) = true := beq_iff_eq.mpr c3
    have c3b1 : ((l0.length : Int) != (l1.length : Int)) = false := bne_eq_false_iff_eq.mpr c3
    have c3b2 : (l0.length == l1.length) = true := by first | simpa using c3 | (simp at c3 ⊢; omega)
    clear c3
    have H' := Aside0.mk H
    clear H
    go_enter Try.func53, Try.ntmps53
    go_wp2
    repeat (go_quiet (fail); try go_wp2)
    go_loopg [5] k (fun kq v5 w' => ∃ (x5_1 : Int), v5 = .int .i64 x5_1 ∧ Aside0 (reefref19_Same.l0 kq l0 l1 x5_1 = some r) ∧ Aside0 (kq ≤ k) ∧ Drawn0 w w')
    case atStart => exact ⟨(0), (by first | rfl | (simp; done) | (simp [*]; done)), H', ⟨Nat.le_refl _⟩, by repeat (first | exact Drawn0.refl _ | apply Drawn0.step)⟩
    case round =>
      clear H'
      try clear c1
      try clear p2
      try clear c3
      try clear c3b0
      try clear c3b1
      try clear c3b2
      obtain ⟨x5_1, rfl, HA, HK1, ⟨m1, rfl⟩⟩ := hrel
      cases gk with
      | zero => exact absurd HA.out (by simp [reefref19_Same.l0])
      | succ k1 =>
        have H := HA.out
        clear HA
        simp only [reefref19_Same.l0] at H
        by_cases c4 : x5_1 < (l0.length : Int)
        · rw [if_pos c4] at H
          have c4b0 : decide (x5_1 < (l0.length : Int)) = true := decide_eq_true c4
          clear c4
          by_cases c5 : 0 ≤ x5_1
          · rw [if_pos c5] at H
            have c5b0 : decide (0 ≤ x5_1) = true := decide_eq_true c5
            clear c5
            by_cases c6 : x5_1 < (l1.length : Int)
            · rw [if_pos c6] at H
              have c6b0 : decide (x5_1 < (l1.length : Int)) = true := decide_eq_true c6
              clear c6
              by_cases c7 : (!((((rd_T83 l0 x5_1).f0).toList) == (((rd_T83 l1 x5_1).f0).toList)) || (!((((rd_T83 l0 x5_1).f1).toList) == (((rd_T83 l1 x5_1).f1).toList)) || (!(((rd_T83 l0 x5_1).f2) == ((rd_T83 l1 x5_1).f2)) || ((!(((rd_T83 l0 x5_1).f3.f0) == ((rd_T83 l1 x5_1).f3.f0)) || (!(((rd_T83 l0 x5_1).f3.f1) == ((rd_T83 l1 x5_1).f3.f1)))))))) = true
              · rw [if_pos c7] at H
                have c7b0 : (!((((rd_T83 l0 x5_1).f0).toList) == (((rd_T83 l1 x5_1).f0).toList)) || (!((((rd_T83 l0 x5_1).f1).toList) == (((rd_T83 l1 x5_1).f1).toList)) || (!(((rd_T83 l0 x5_1).f2) == ((rd_T83 l1 x5_1).f2)) || ((!(((rd_T83 l0 x5_1).f3.f0) == ((rd_T83 l1 x5_1).f3.f0)) || (!(((rd_T83 l0 x5_1).f3.f1) == ((rd_T83 l1 x5_1).f3.f1)))))))) = true := c7
                clear c7
                obtain rfl := Option.some.inj H
                have p250 : 0 ≤ (x5_1 : Int) := of_decide_eq_true (by first | (with_reducible assumption) | assumption)
                have q250 : x5_1 < (l0.length : Int) := of_decide_eq_true (by first | (with_reducible assumption) | assumption)
                obtain ⟨ad250, e250, hx250_0, hx250_1, hx250_2, hx250_3, hx250_4⟩ := at_T83 HR0.out x5_1 p250 q250
                cases e250
                replace p250 := eq_true p250
                replace q250 := eq_true q250
                have p251 : 0 ≤ (x5_1 : Int) := of_decide_eq_true (by first | (with_reducible assumption) | assumption)
                have q251 : x5_1 < (l1.length : Int) := of_decide_eq_true (by first | (with_reducible assumption) | assumption)
                obtain ⟨ad251, e251, hx251_0, hx251_1, hx251_2, hx251_3, hx251_4⟩ := at_T83 HR1.out x5_1 p251 q251
                cases e251
                replace p251 := eq_true p251
                replace q251 := eq_true q251
                go_wp2
                repeat (go_quiet (fail); try go_wp2)
                go_ret
                exact ⟨by first | rfl | (simp; done) | (simp [*]; done), by repeat (first | exact Drawn0.refl _ | apply Drawn0.step)⟩
              · rw [if_neg c7] at H
                have c7b0 : (!((((rd_T83 l0 x5_1).f0).toList) == (((rd_T83 l1 x5_1).f0).toList)) || (!((((rd_T83 l0 x5_1).f1).toList) == (((rd_T83 l1 x5_1).f1).toList)) || (!(((rd_T83 l0 x5_1).f2) == ((rd_T83 l1 x5_1).f2)) || ((!(((rd_T83 l0 x5_1).f3.f0) == ((rd_T83 l1 x5_1).f3.f0)) || (!(((rd_T83 l0 x5_1).f3.f1) == ((rd_T83 l1 x5_1).f3.f1)))))))) = false := by simpa using c7
                clear c7
                have H' := Aside0.mk H
                clear H
                have p250 : 0 ≤ (x5_1 : Int) := of_decide_eq_true (by first | (with_reducible assumption) | assumption)
                have q250 : x5_1 < (l0.length : Int) := of_decide_eq_true (by first | (with_reducible assumption) | assumption)
                obtain ⟨ad250, e250, hx250_0, hx250_1, hx250_2, hx250_3, hx250_4⟩ := at_T83 HR0.out x5_1 p250 q250
                cases e250
                replace p250 := eq_true p250
                replace q250 := eq_true q250
                have p251 : 0 ≤ (x5_1 : Int) := of_decide_eq_true (by first | (with_reducible assumption) | assumption)
                have q251 : x5_1 < (l1.length : Int) := of_decide_eq_true (by first | (with_reducible assumption) | assumption)
                obtain ⟨ad251, e251, hx251_0, hx251_1, hx251_2, hx251_3, hx251_4⟩ := at_T83 HR1.out x5_1 p251 q251
                cases e251
                replace p251 := eq_true p251
                replace q251 := eq_true q251
                go_wp2
                repeat (go_quiet (fail); try go_wp2)
                go_roundg k1
                case measure => have := HK1.out; omega
                case rel => exact ⟨(wrap64 (x5_1 + 1)), (by first | rfl | (simp; done) | (simp [*]; done)), H', ⟨by have := HK1.out; omega⟩, by repeat (first | exact Drawn0.refl _ | apply Drawn0.step)⟩
            · rw [if_neg c6] at H
              exact absurd H (by simp)
          · rw [if_neg c5] at H
            exact absurd H (by simp)
        · rw [if_neg c4] at H
          have c4b0 : decide (x5_1 < (l0.length : Int)) = false := decide_eq_false c4
          clear c4
          obtain rfl := Option.some.inj H
          go_wp2
          repeat (go_quiet (fail); try go_wp2)
          go_ret
          exact ⟨by first | rfl | (simp; done) | (simp [*]; done), by repeat (first | exact Drawn0.refl _ | apply Drawn0.step)⟩
  · rw [if_neg c3] at H
    have c3b0 : ((l0.length : Int) == (l1.length : Int)) = false := beq_eq_false_iff_ne.mpr c3
    have c3b1 : ((l0.length : Int) != (l1.length : Int)) = true := bne_iff_ne.mpr c3
    have c3b2 : (l0.length == l1.length) = false := by first | simpa using c3 | (simp at c3 ⊢; omega)
    obtain rfl := Option.some.inj H
    go_enter Try.func53, Try.ntmps53
    go_wp2
    repeat (go_quiet (fail); try go_wp2)
    go_ret
    exact ⟨by first | rfl | (simp; done) | (simp [*]; done), by repeat (first | exact Drawn0.refl _ | apply Drawn0.step)⟩
end Go.Proofs.Ytbdciklcckjknaa.P
namespace Go.Proofs.Ytbdciklcckjknaa.P
open Go.RowKit Go.Proofs.YtbdciklcckjknaaW.PrintWords Go.Proofs.YtbdciklcckjknaaW.PrintLast Go.Proofs.YtbdciklcckjknaaW.PrintMore
attribute [local go_sem] max2_int min2_int max_two min_two max_three min_three max_four min_four
set_option linter.unusedVariables false
set_option linter.unusedSimpArgs false
attribute [local go_sem high] eqA24 eqA51 eqA73 eqA83
def reefref20_Same.l0 : Nat → List (S73) → List (S73) → Int → Option (Bool)
  | 0, _, _, _ => none
  | k + 1, x0, x1, x5 => if x5 < (x0.length : Int) then (if 0 ≤ x5 then (if x5 < (x1.length : Int) then (if (!(((rd_T73 x0 x5).f0) == ((rd_T73 x1 x5).f0)) || (!(((rd_T73 x0 x5).f1) == ((rd_T73 x1 x5).f1)) || (!(((rd_T73 x0 x5).f2) == ((rd_T73 x1 x5).f2)) || ((!(((rd_T73 x0 x5).f3.f0) == ((rd_T73 x1 x5).f3.f0)) || (!(((rd_T73 x0 x5).f3.f1) == ((rd_T73 x1 x5).f3.f1)) || (!(((rd_T73 x0 x5).f3.f2) == ((rd_T73 x1 x5).f3.f2)) || (!((((rd_T73 x0 x5).f3.f3).toList) == (((rd_T73 x1 x5).f3.f3).toList)))))))))) = true then (some false) else (reefref20_Same.l0 k x0 x1 (wrap64 (x5 + 1)))) else (none)) else (none)) else (some true)
def reefref20_Same.f (k : Nat) (l0 : List (S73)) (l1 : List (S73)) : Option (Bool) := if (l0.length : Int) = (l1.length : Int) then (reefref20_Same.l0 k l0 l1 0) else (some false)
set_option maxHeartbeats 8000000 in
set_option maxRecDepth 100000 in
theorem reefref20_Same.calls (k : Nat) (A0 : Option Addr) (c0 : Nat) (l0 : List (S73)) (A1 : Option Addr) (c1 : Nat) (l1 : List (S73)) (r : Bool) (w : World) (hr0 : Kd.C k73 w A0 l0.length l0) (hc0 : l0.length ≤ c0) (hr1 : Kd.C k73 w A1 l1.length l1) (hc1 : l1.length ≤ c1) (h : reefref20_Same.f k l0 l1 = some r) :
    Calls Try.prog 52 #[.slice A0 l0.length c0, .slice A1 l1.length c1] w fun e w' => e = .returned (.bool r) ∧ Drawn0 w w' := by
  have hu73 := Try.underlying73
  have HR0 := Aside0.mk hr0
  have HC0 := Aside0.mk hc0
  clear hr0 hc0
  have HR1 := Aside0.mk hr1
  have HC1 := Aside0.mk hc1
  clear hr1 hc1
  have H : (if (l0.length : Int) = (l1.length : Int) then (reefref20_Same.l0 k l0 l1 0) else (some false)) = some r := h
  clear h
  by_cases c3 : (l0.length : Int) = (l1.length : Int)
  · rw [if_pos c3] at H
    have c3b0 : ((l0.length : Int) == (l1.length : Int)) = true := beq_iff_eq.mpr c3
    have c3b1 : ((l0.length : Int) != (l1.length : Int)) = false := bne_eq_false_iff_eq.mpr c3
    have c3b2 : (l0.length == l1.length) = true := by first | simpa using c3 | (simp at c3 ⊢; omega)
    clear c3
    have H' := Aside0.mk H
    clear H
    go_enter Try.func52, Try.ntmps52
    go_wp2
    repeat (go_quiet (fail); try go_wp2)
    go_loopg [5] k (fun kq v5 w' => ∃ (x5_1 : Int), v5 = .int .i64 x5_1 ∧ Aside0 (reefref20_Same.l0 kq l0 l1 x5_1 = some r) ∧ Aside0 (kq ≤ k) ∧ Drawn0 w w')
    case atStart => exact ⟨(0), (by first | rfl | (simp; done) | (simp [*]; done)), H', ⟨Nat.le_refl _⟩, by repeat (first | exact Drawn0.refl _ | apply Drawn0.step)⟩
    case round =>
      clear H'
      try clear c1
      try clear p2
      try clear c3
      try clear c3b0
      try clear c3b1
      try clear c3b2
      obtain ⟨x5_1, rfl, HA, HK1, ⟨m1, rfl⟩⟩ := hrel
      cases gk with
      | zero => exact absurd HA.out (by simp [reefref20_Same.l0])
      | succ k1 =>
        have H := HA.out
        clear HA
        simp only [reefref20_Same.l0] at H
        by_cases c4 : x5_1 < (l0.length : Int)
        · rw [if_pos c4] at H
          have c4b0 : decide (x5_1 < (l0.length : Int)) = true := decide_eq_true c4
          clear c4
          by_cases c5 : 0 ≤ x5_1
          · rw [if_pos c5] at H
            have c5b0 : decide (0 ≤ x5_1) = true := decide_eq_true c5
            clear c5
            by_cases c6 : x5_1 < (l1.length : Int)
            · rw [if_pos c6] at H
              have c6b0 : decide (x5_1 < (l1.length : Int)) = true := decide_eq_true c6
              clear c6
              by_cases c7 : (!(((rd_T73 l0 x5_1).f0) == ((rd_T73 l1 x5_1).f0)) || (!(((rd_T73 l0 x5_1).f1) == ((rd_T73 l1 x5_1).f1)) || (!(((rd_T73 l0 x5_1).f2) == ((rd_T73 l1 x5_1).f2)) || ((!(((rd_T73 l0 x5_1).f3.f0) == ((rd_T73 l1 x5_1).f3.f0)) || (!(((rd_T73 l0 x5_1).f3.f1) == ((rd_T73 l1 x5_1).f3.f1)) || (!(((rd_T73 l0 x5_1).f3.f2) == ((rd_T73 l1 x5_1).f3.f2)) || (!((((rd_T73 l0 x5_1).f3.f3).toList) == (((rd_T73 l1 x5_1).f3.f3).toList)))))))))) = true
              · rw [if_pos c7] at H
                have c7b0 : (!(((rd_T73 l0 x5_1).f0) == ((rd_T73 l1 x5_1).f0)) || (!(((rd_T73 l0 x5_1).f1) == ((rd_T73 l1 x5_1).f1)) || (!(((rd_T73 l0 x5_1).f2) == ((rd_T73 l1 x5_1).f2)) || ((!(((rd_T73 l0 x5_1).f3.f0) == ((rd_T73 l1 x5_1).f3.f0)) || (!(((rd_T73 l0 x5_1).f3.f1) == ((rd_T73 l1 x5_1).f3.f1)) || (!(((rd_T73 l0 x5_1).f3.f2) == ((rd_T73 l1 x5_1).f3.f2)) || (!((((rd_T73 l0 x5_1).f3.f3).toList) == (((rd_T73 l1 x5_1).f3.f3).toList)))))))))) = true := c7
                clear c7
                obtain rfl := Option.some.inj H
                have p248 : 0 ≤ (x5_1 : Int) := of_decide_eq_true (by first | (with_reducible assumption) | assumption)
                have q248 : x5_1 < (l0.length : Int) := of_decide_eq_true (by first | (with_reducible assumption) | assumption)
                obtain ⟨ad248, e248, hx248_0, hx248_1, hx248_2, hx248_3, hx248_4, hx248_5, hx248_6⟩ := at_T73 HR0.out x5_1 p248 q248
                cases e248
                replace p248 := eq_true p248
                replace q248 := eq_true q248
                have p249 : 0 ≤ (x5_1 : Int) := of_decide_eq_true (by first | (with_reducible assumption) | assumption)
                have q249 : x5_1 < (l1.length : Int) := of_decide_eq_true (by first | (with_reducible assumption) | assumption)
                obtain ⟨ad249, e249, hx249_0, hx249_1, hx249_2, hx249_3, hx249_4, hx249_5, hx249_6⟩ := at_T73 HR1.out x5_1 p249 q249
                cases e249
                replace p249 := eq_true p249
                replace q249 := eq_true q249
                go_wp2
                repeat (go_quiet (fail); try go_wp2)
                go_ret
                exact ⟨by first | rfl | (simp; done) | (simp [*]; done), by repeat (first | exact Drawn0.refl _ | apply Drawn0.step)⟩
              · rw [if_neg c7] at H
                have c7b0 : (!(((rd_T73 l0 x5_1).f0) == ((rd_T73 l1 x5_1).f0)) || (!(((rd_T73 l0 x5_1).f1) == ((rd_T73 l1 x5_1).f1)) || (!(((rd_T73 l0 x5_1).f2) == ((rd_T73 l1 x5_1).f2)) || ((!(((rd_T73 l0 x5_1).f3.f0) == ((rd_T73 l1 x5_1).f3.f0)) || (!(((rd_T73 l0 x5_1).f3.f1) == ((rd_T73 l1 x5_1).f3.f1)) || (!(((rd_T73 l0 x5_1).f3.f2) == ((rd_T73 l1 x5_1).f3.f2)) || (!((((rd_T73 l0 x5_1).f3.f3).toList) == (((rd_T73 l1 x5_1).f3.f3).toList)))))))))) = false := by simpa using c7
                clear c7
                have H' := Aside0.mk H
                clear H
                have p248 : 0 ≤ (x5_1 : Int) := of_decide_eq_true (by first | (with_reducible assumption) | assumption)
                have q248 : x5_1 < (l0.length : Int) := of_decide_eq_true (by first | (with_reducible assumption) | assumption)
                obtain ⟨ad248, e248, hx248_0, hx248_1, hx248_2, hx248_3, hx248_4, hx248_5, hx248_6⟩ := at_T73 HR0.out x5_1 p248 q248
                cases e248
                replace p248 := eq_true p248
                replace q248 := eq_true q248
                have p249 : 0 ≤ (x5_1 : Int) := of_decide_eq_true (by first | (with_reducible assumption) | assumption)
                have q249 : x5_1 < (l1.length : Int) := of_decide_eq_true (by first | (with_reducible assumption) | assumption)
                obtain ⟨ad249, e249, hx249_0, hx249_1, hx249_2, hx249_3, hx249_4, hx249_5, hx249_6⟩ := at_T73 HR1.out x5_1 p249 q249
                cases e249
                replace p249 := eq_true p249
                replace q249 := eq_true q249
                go_wp2
                repeat (go_quiet (fail); try go_wp2)
                go_roundg k1
                case measure => have := HK1.out; omega
                case rel => exact ⟨(wrap64 (x5_1 + 1)), (by first | rfl | (simp; done) | (simp [*]; done)), H', ⟨by have := HK1.out; omega⟩, by repeat (first | exact Drawn0.refl _ | apply Drawn0.step)⟩
            · rw [if_neg c6] at H
              exact absurd H (by simp)
          · rw [if_neg c5] at H
            exact absurd H (by simp)
        · rw [if_neg c4] at H
          have c4b0 : decide (x5_1 < (l0.length : Int)) = false := decide_eq_false c4
          clear c4
          obtain rfl := Option.some.inj H
          go_wp2
          repeat (go_quiet (fail); try go_wp2)
          go_ret
          exact ⟨by first | rfl | (simp; done) | (simp [*]; done), by repeat (first | exact Drawn0.refl _ | apply Drawn0.step)⟩
  · rw [if_neg c3] at H
    have c3b0 : ((l0.length : Int) == (l1.length : Int)) = false := beq_eq_false_iff_ne.mpr c3
    have c3b1 : ((l0.length : Int) != (l1.length : Int)) = true := bne_iff_ne.mpr c3
    have c3b2 : (l0.length == l1.length) = false := by first | simpa using c3 | (simp at c3 ⊢; omega)
    obtain rfl := Option.some.inj H
    go_enter Try.func52, Try.ntmps52
    go_wp2
    repeat (go_quiet (fail); try go_wp2)
    go_ret
    exact ⟨by first | rfl | (simp; done) | (simp [*]; done), by repeat (first | exact Drawn0.refl _ | apply Drawn0.step)⟩
end Go.Proofs.Ytbdciklcckjknaa.P
namespace Go.Proofs.Ytbdciklcckjknaa.P
open Go.RowKit Go.Proofs.YtbdciklcckjknaaW.PrintWords Go.Proofs.YtbdciklcckjknaaW.PrintLast Go.Proofs.YtbdciklcckjknaaW.PrintMore
attribute [local go_sem] max2_int min2_int max_two min_two max_three min_three max_four min_four
set_option linter.unusedVariables false
set_option linter.unusedSimpArgs false
attribute [local go_sem high] eqA34
def reefref21_Same.l0 : Nat → List (S34) → List (S34) → Int → Option (Bool)
  | 0, _, _, _ => none
  | k + 1, x0, x1, x5 => if x5 < (x0.length : Int) then (if 0 ≤ x5 then (if x5 < (x1.length : Int) then (if ((!(((rd_T34 x0 x5).f0.f0) == ((rd_T34 x1 x5).f0.f0)) || (!(((rd_T34 x0 x5).f0.f1) == ((rd_T34 x1 x5).f0.f1)))) || ((!(((rd_T34 x0 x5).f1.f0) == ((rd_T34 x1 x5).f1.f0)) || (!(((rd_T34 x0 x5).f1.f1) == ((rd_T34 x1 x5).f1.f1)) || (!(((rd_T34 x0 x5).f1.f2) == ((rd_T34 x1 x5).f1.f2)) || ((!(((rd_T34 x0 x5).f1.f3.f0) == ((rd_T34 x1 x5).f1.f3.f0)) || (!((((rd_T34 x0 x5).f1.f3.f1).toList) == (((rd_T34 x1 x5).f1.f3.f1).toList)) || (!(((rd_T34 x0 x5).f1.f3.f2) == ((rd_T34 x1 x5).f1.f3.f2)) || (!(((rd_T34 x0 x5).f1.f3.f3) == ((rd_T34 x1 x5).f1.f3.f3)) || (!((((rd_T34 x0 x5).f1.f3.f4).toList) == (((rd_T34 x1 x5).f1.f3.f4).toList))))))))))) || ((!(((rd_T34 x0 x5).f2.f0) == ((rd_T34 x1 x5).f2.f0)) || (!(((rd_T34 x0 x5).f2.f1) == ((rd_T34 x1 x5).f2.f1)) || (!(((rd_T34 x0 x5).f2.f2) == ((rd_T34 x1 x5).f2.f2)) || (!((((rd_T34 x0 x5).f2.f3).toList) == (((rd_T34 x1 x5).f2.f3).toList))))))))) = true then (some false) else (reefref21_Same.l0 k x0 x1 (wrap64 (x5 + 1)))) else (none)) else (none)) else (some true)
def reefref21_Same.f (k : Nat) (l0 : List (S34)) (l1 : List (S34)) : Option (Bool) := if (l0.length : Int) = (l1.length : Int) then (reefref21_Same.l0 k l0 l1 0) else (some false)
set_option maxHeartbeats 8000000 in
set_option maxRecDepth 100000 in
theorem reefref21_Same.calls (k : Nat) (A0 : Option Addr) (c0 : Nat) (l0 : List (S34)) (A1 : Option Addr) (c1 : Nat) (l1 : List (S34)) (r : Bool) (w : World) (hr0 : Kd.C k34 w A0 l0.length l0) (hc0 : l0.length ≤ c0) (hr1 : Kd.C k34 w A1 l1.length l1) (hc1 : l1.length ≤ c1) (h : reefref21_Same.f k l0 l1 = some r) :
    Calls Try.prog 14 #[.slice A0 l0.length c0, .slice A1 l1.length c1] w fun e w' => e = .returned (.bool r) ∧ Drawn0 w w' := by
  have hu34 := Try.underlying34
  have HR0 := Aside0.mk hr0
  have HC0 := Aside0.mk hc0
  clear hr0 hc0
  have HR1 := Aside0.mk hr1
  have HC1 := Aside0.mk hc1
  clear hr1 hc1
  have H : (if (l0.length : Int) = (l1.length : Int) then (reefref21_Same.l0 k l0 l1 0) else (some false)) = some r := h
  clear h
  by_cases c3 : (l0.length : Int) = (l1.length : Int)
  · rw [if_pos c3] at H
    have c3b0 : ((l0.length : Int) == (l1.length : Int)) = true := beq_iff_eq.mpr c3
    have c3b1 : ((l0.length : Int) != (l1.length : Int)) = false := bne_eq_false_iff_eq.mpr c3
    have c3b2 : (l0.length == l1.length) = true := by first | simpa using c3 | (simp at c3 ⊢; omega)
    clear c3
    have H' := Aside0.mk H
    clear H
    go_enter Try.func14, Try.ntmps14
    go_wp2
    repeat (go_quiet (fail); try go_wp2)
    go_loopg [5] k (fun kq v5 w' => ∃ (x5_1 : Int), v5 = .int .i64 x5_1 ∧ Aside0 (reefref21_Same.l0 kq l0 l1 x5_1 = some r) ∧ Aside0 (kq ≤ k) ∧ Drawn0 w w')
    case atStart => exact ⟨(0), (by first | rfl | (simp; done) | (simp [*]; done)), H', ⟨Nat.le_refl _⟩, by repeat (first | exact Drawn0.refl _ | apply Drawn0.step)⟩
    case round =>
      clear H'
      try clear c1
      try clear p2
      try clear c3
      try clear c3b0
      try clear c3b1
      try clear c3b2
      obtain ⟨x5_1, rfl, HA, HK1, ⟨m1, rfl⟩⟩ := hrel
      cases gk with
      | zero => exact absurd HA.out (by simp [reefref21_Same.l0])
      | succ k1 =>
        have H := HA.out
        clear HA
        simp only [reefref21_Same.l0] at H
        by_cases c4 : x5_1 < (l0.length : Int)
        · rw [if_pos c4] at H
          have c4b0 : decide (x5_1 < (l0.length : Int)) = true := decide_eq_true c4
          clear c4
          by_cases c5 : 0 ≤ x5_1
          · rw [if_pos c5] at H
            have c5b0 : decide (0 ≤ x5_1) = true := decide_eq_true c5
            clear c5
            by_cases c6 : x5_1 < (l1.length : Int)
            · rw [if_pos c6] at H
              have c6b0 : decide (x5_1 < (l1.length : Int)) = true := decide_eq_true c6
              clear c6
              by_cases c7 : ((!(((rd_T34 l0 x5_1).f0.f0) == ((rd_T34 l1 x5_1).f0.f0)) || (!(((rd_T34 l0 x5_1).f0.f1) == ((rd_T34 l1 x5_1).f0.f1)))) || ((!(((rd_T34 l0 x5_1).f1.f0) == ((rd_T34 l1 x5_1).f1.f0)) || (!(((rd_T34 l0 x5_1).f1.f1) == ((rd_T34 l1 x5_1).f1.f1)) || (!(((rd_T34 l0 x5_1).f1.f2) == ((rd_T34 l1 x5_1).f1.f2)) || ((!(((rd_T34 l0 x5_1).f1.f3.f0) == ((rd_T34 l1 x5_1).f1.f3.f0)) || (!((((rd_T34 l0 x5_1).f1.f3.f1).toList) == (((rd_T34 l1 x5_1).f1.f3.f1).toList)) || (!(((rd_T34 l0 x5_1).f1.f3.f2) == ((rd_T34 l1 x5_1).f1.f3.f2)) || (!(((rd_T34 l0 x5_1).f1.f3.f3) == ((rd_T34 l1 x5_1).f1.f3.f3)) || (!((((rd_T34 l0 x5_1).f1.f3.f4).toList) == (((rd_T34 l1 x5_1).f1.f3.f4).toList))))))))))) || ((!(((rd_T34 l0 x5_1).f2.f0) == ((rd_T34 l1 x5_1).f2.f0)) || (!(((rd_T34 l0 x5_1).f2.f1) == ((rd_T34 l1 x5_1).f2.f1)) || (!(((rd_T34 l0 x5_1).f2.f2) == ((rd_T34 l1 x5_1).f2.f2)) || (!((((rd_T34 l0 x5_1).f2.f3).toList) == (((rd_T34 l1 x5_1).f2.f3).toList))))))))) = true
              · rw [if_pos c7] at H
                have c7b0 : ((!(((rd_T34 l0 x5_1).f0.f0) == ((rd_T34 l1 x5_1).f0.f0)) || (!(((rd_T34 l0 x5_1).f0.f1) == ((rd_T34 l1 x5_1).f0.f1)))) || ((!(((rd_T34 l0 x5_1).f1.f0) == ((rd_T34 l1 x5_1).f1.f0)) || (!(((rd_T34 l0 x5_1).f1.f1) == ((rd_T34 l1 x5_1).f1.f1)) || (!(((rd_T34 l0 x5_1).f1.f2) == ((rd_T34 l1 x5_1).f1.f2)) || ((!(((rd_T34 l0 x5_1).f1.f3.f0) == ((rd_T34 l1 x5_1).f1.f3.f0)) || (!((((rd_T34 l0 x5_1).f1.f3.f1).toList) == (((rd_T34 l1 x5_1).f1.f3.f1).toList)) || (!(((rd_T34 l0 x5_1).f1.f3.f2) == ((rd_T34 l1 x5_1).f1.f3.f2)) || (!(((rd_T34 l0 x5_1).f1.f3.f3) == ((rd_T34 l1 x5_1).f1.f3.f3)) || (!((((rd_T34 l0 x5_1).f1.f3.f4).toList) == (((rd_T34 l1 x5_1).f1.f3.f4).toList))))))))))) || ((!(((rd_T34 l0 x5_1).f2.f0) == ((rd_T34 l1 x5_1).f2.f0)) || (!(((rd_T34 l0 x5_1).f2.f1) == ((rd_T34 l1 x5_1).f2.f1)) || (!(((rd_T34 l0 x5_1).f2.f2) == ((rd_T34 l1 x5_1).f2.f2)) || (!((((rd_T34 l0 x5_1).f2.f3).toList) == (((rd_T34 l1 x5_1).f2.f3).toList))))))))) = true := c7
                clear c7
                obtain rfl := Option.some.inj H
                have p177 : 0 ≤ (x5_1 : Int) := of_decide_eq_true (by first | (with_reducible assumption) | assumption)
                have q177 : x5_1 < (l0.length : Int) := of_decide_eq_true (by first | (with_reducible assumption) | assumption)
                obtain ⟨ad177, e177, hx177_0, hx177_1, hx177_2, hx177_3, hx177_4, hx177_5, hx177_6, hx177_7, hx177_8, hx177_9, hx177_10, hx177_11, hx177_12, hx177_13⟩ := at_T34 HR0.out x5_1 p177 q177
                cases e177
                replace p177 := eq_true p177
                replace q177 := eq_true q177
                have p178 : 0 ≤ (x5_1 : Int) := of_decide_eq_true (by first | (with_reducible assumption) | assumption)
                have q178 : x5_1 < (l1.length : Int) := of_decide_eq_true (by first | (with_reducible assumption) | assumption)
                obtain ⟨ad178, e178, hx178_0, hx178_1, hx178_2, hx178_3, hx178_4, hx178_5, hx178_6, hx178_7, hx178_8, hx178_9, hx178_10, hx178_11, hx178_12, hx178_13⟩ := at_T34 HR1.out x5_1 p178 q178
                cases e178
                replace p178 := eq_true p178
                replace q178 := eq_true q178
                go_wp2
                repeat (go_quiet (fail); try go_wp2)
                go_ret
                exact ⟨by first | rfl | (simp; done) | (simp [*]; done), by repeat (first | exact Drawn0.refl _ | apply Drawn0.step)⟩
              · rw [if_neg c7] at H
                have c7b0 : ((!(((rd_T34 l0 x5_1).f0.f0) == ((rd_T34 l1 x5_1).f0.f0)) || (!(((rd_T34 l0 x5_1).f0.f1) == ((rd_T34 l1 x5_1).f0.f1)))) || ((!(((rd_T34 l0 x5_1).f1.f0) == ((rd_T34 l1 x5_1).f1.f0)) || (!(((rd_T34 l0 x5_1).f1.f1) == ((rd_T34 l1 x5_1).f1.f1)) || (!(((rd_T34 l0 x5_1).f1.f2) == ((rd_T34 l1 x5_1).f1.f2)) || ((!(((rd_T34 l0 x5_1).f1.f3.f0) == ((rd_T34 l1 x5_1).f1.f3.f0)) || (!((((rd_T34 l0 x5_1).f1.f3.f1).toList) == (((rd_T34 l1 x5_1).f1.f3.f1).toList)) || (!(((rd_T34 l0 x5_1).f1.f3.f2) == ((rd_T34 l1 x5_1).f1.f3.f2)) || (!(((rd_T34 l0 x5_1).f1.f3.f3) == ((rd_T34 l1 x5_1).f1.f3.f3)) || (!((((rd_T34 l0 x5_1).f1.f3.f4).toList) == (((rd_T34 l1 x5_1).f1.f3.f4).toList))))))))))) || ((!(((rd_T34 l0 x5_1).f2.f0) == ((rd_T34 l1 x5_1).f2.f0)) || (!(((rd_T34 l0 x5_1).f2.f1) == ((rd_T34 l1 x5_1).f2.f1)) || (!(((rd_T34 l0 x5_1).f2.f2) == ((rd_T34 l1 x5_1).f2.f2)) || (!((((rd_T34 l0 x5_1).f2.f3).toList) == (((rd_T34 l1 x5_1).f2.f3).toList))))))))) = false := by simpa using c7
                clear c7
                have H' := Aside0.mk H
                clear H
                have p177 : 0 ≤ (x5_1 : Int) := of_decide_eq_true (by first | (with_reducible assumption) | assumption)
                have q177 : x5_1 < (l0.length : Int) := of_decide_eq_true (by first | (with_reducible assumption) | assumption)
                obtain ⟨ad177, e177, hx177_0, hx177_1, hx177_2, hx177_3, hx177_4, hx177_5, hx177_6, hx177_7, hx177_8, hx177_9, hx177_10, hx177_11, hx177_12, hx177_13⟩ := at_T34 HR0.out x5_1 p177 q177
                cases e177
                replace p177 := eq_true p177
                replace q177 := eq_true q177
                have p178 : 0 ≤ (x5_1 : Int) := of_decide_eq_true (by first | (with_reducible assumption) | assumption)
                have q178 : x5_1 < (l1.length : Int) := of_decide_eq_true (by first | (with_reducible assumption) | assumption)
                obtain ⟨ad178, e178, hx178_0, hx178_1, hx178_2, hx178_3, hx178_4, hx178_5, hx178_6, hx178_7, hx178_8, hx178_9, hx178_10, hx178_11, hx178_12, hx178_13⟩ := at_T34 HR1.out x5_1 p178 q178
                cases e178
                replace p178 := eq_true p178
                replace q178 := eq_true q178
                go_wp2
                repeat (go_quiet (fail); try go_wp2)
                go_roundg k1
                case measure => have := HK1.out; omega
                case rel => exact ⟨(wrap64 (x5_1 + 1)), (by first | rfl | (simp; done) | (simp [*]; done)), H', ⟨by have := HK1.out; omega⟩, by repeat (first | exact Drawn0.refl _ | apply Drawn0.step)⟩
            · rw [if_neg c6] at H
              exact absurd H (by simp)
          · rw [if_neg c5] at H
            exact absurd H (by simp)
        · rw [if_neg c4] at H
          have c4b0 : decide (x5_1 < (l0.length : Int)) = false := decide_eq_false c4
          clear c4
          obtain rfl := Option.some.inj H
          go_wp2
          repeat (go_quiet (fail); try go_wp2)
          go_ret
          exact ⟨by first | rfl | (simp; done) | (simp [*]; done), by repeat (first | exact Drawn0.refl _ | apply Drawn0.step)⟩
  · rw [if_neg c3] at H
    have c3b0 : ((l0.length : Int) == (l1.length : Int)) = false := beq_eq_false_iff_ne.mpr c3
    have c3b1 : ((l0.length : Int) != (l1.length : Int)) = true := bne_iff_ne.mpr c3
    have c3b2 : (l0.length == l1.length) = false := by first | simpa using c3 | (simp at c3 ⊢; omega)
    obtain rfl := Option.some.inj H
    go_enter Try.func14, Try.ntmps14
    go_wp2
    repeat (go_quiet (fail); try go_wp2)
    go_ret
    exact ⟨by first | rfl | (simp; done) | (simp [*]; done), by repeat (first | exact Drawn0.refl _ | apply Drawn0.step)⟩
end Go.Proofs.Ytbdciklcckjknaa.P
namespace Go.Proofs.Ytbdciklcckjknaa.P
open Go.RowKit Go.Proofs.YtbdciklcckjknaaW.PrintWords Go.Proofs.YtbdciklcckjknaaW.PrintLast Go.Proofs.YtbdciklcckjknaaW.PrintMore
attribute [local go_sem] max2_int min2_int max_two min_two max_three min_three max_four min_four
set_option linter.unusedVariables false
set_option linter.unusedSimpArgs false
attribute [local go_sem high] eqA24 eqA51
def reefref21_Shards.f (k : Nat) (a0_0 : Int) (a0_1 : Int) (a0_2 : Int) (a0_3 : Int) (a0_4 : Int) (l0_5 : List (S34)) (l0_6 : List (S73)) (l0_7 : List (S83)) (a1_0 : Int) (a1_1 : Int) (a1_2 : Int) (a1_3 : Int) (a1_4 : Int) (l1_5 : List (S34)) (l1_6 : List (S73)) (l1_7 : List (S83)) : Option (Bool) := if (a0_0 == a1_0 && (a0_1 == a1_1)) = true then (if a0_2 = a1_2 then (if (a0_3 == a1_3 && (a0_4 == a1_4)) = true then ((reefref21_Same.f k l0_5 l1_5).bind fun t254 => (if t254 = true then ((reefref20_Same.f k l0_6 l1_6).bind fun t255 => (if t255 = true then ((reefref19_Same.f k l0_7 l1_7).bind fun t256 => (some t256)) else (some false))) else (some false))) else (some false)) else (some false)) else (some false)
set_option maxHeartbeats 8000000 in
set_option maxRecDepth 100000 in
theorem reefref21_Shards.calls (k : Nat) (a0_0 : Int) (a0_1 : Int) (a0_2 : Int) (a0_3 : Int) (a0_4 : Int) (A0_5 : Option Addr) (c0_5 : Nat) (l0_5 : List (S34)) (A0_6 : Option Addr) (c0_6 : Nat) (l0_6 : List (S73)) (A0_7 : Option Addr) (c0_7 : Nat) (l0_7 : List (S83)) (a1_0 : Int) (a1_1 : Int) (a1_2 : Int) (a1_3 : Int) (a1_4 : Int) (A1_5 : Option Addr) (c1_5 : Nat) (l1_5 : List (S34)) (A1_6 : Option Addr) (c1_6 : Nat) (l1_6 : List (S73)) (A1_7 : Option Addr) (c1_7 : Nat) (l1_7 : List (S83)) (r : Bool) (w : World) (hr0_5 : Kd.C k34 w A0_5 l0_5.length l0_5) (hc0_5 : l0_5.length ≤ c0_5) (hr0_6 : Kd.C k73 w A0_6 l0_6.length l0_6) (hc0_6 : l0_6.length ≤ c0_6) (hr0_7 : Kd.C k83 w A0_7 l0_7.length l0_7) (hc0_7 : l0_7.length ≤ c0_7) (hr1_5 : Kd.C k34 w A1_5 l1_5.length l1_5) (hc1_5 : l1_5.length ≤ c1_5) (hr1_6 : Kd.C k73 w A1_6 l1_6.length l1_6) (hc1_6 : l1_6.length ≤ c1_6) (hr1_7 : Kd.C k83 w A1_7 l1_7.length l1_7) (hc1_7 : l1_7.length ≤ c1_7) (h : reefref21_Shards.f k a0_0 a0_1 a0_2 a0_3 a0_4 l0_5 l0_6 l0_7 a1_0 a1_1 a1_2 a1_3 a1_4 l1_5 l1_6 l1_7 = some r) :
    Calls Try.prog 27 #[.agg #[.int .i64 a0_0, .int .i64 a0_1, .int .i64 a0_2, .int .i64 a0_3, .int .i64 a0_4, .slice A0_5 l0_5.length c0_5, .slice A0_6 l0_6.length c0_6, .slice A0_7 l0_7.length c0_7], .agg #[.int .i64 a1_0, .int .i64 a1_1, .int .i64 a1_2, .int .i64 a1_3, .int .i64 a1_4, .slice A1_5 l1_5.length c1_5, .slice A1_6 l1_6.length c1_6, .slice A1_7 l1_7.length c1_7]] w fun e w' => e = .returned (.bool r) ∧ Below w.heap.size w w' := by
  have hu55 := Try.underlying55
  have hu51 := Try.underlying51
  have hu24 := Try.underlying24
  have HR0_5 := Aside0.mk hr0_5
  have HC0_5 := Aside0.mk hc0_5
  clear hr0_5 hc0_5
  have HR0_6 := Aside0.mk hr0_6
  have HC0_6 := Aside0.mk hc0_6
  clear hr0_6 hc0_6
  have HR0_7 := Aside0.mk hr0_7
  have HC0_7 := Aside0.mk hc0_7
  clear hr0_7 hc0_7
  have HR1_5 := Aside0.mk hr1_5
  have HC1_5 := Aside0.mk hc1_5
  clear hr1_5 hc1_5
  have HR1_6 := Aside0.mk hr1_6
  have HC1_6 := Aside0.mk hc1_6
  clear hr1_6 hc1_6
  have HR1_7 := Aside0.mk hr1_7
  have HC1_7 := Aside0.mk hc1_7
  clear hr1_7 hc1_7
  have HB := Aside0.mk (Below.refl w.heap.size w)
  have H : (if (a0_0 == a1_0 && (a0_1 == a1_1)) = true then (if a0_2 = a1_2 then (if (a0_3 == a1_3 && (a0_4 == a1_4)) = true then ((reefref21_Same.f k l0_5 l1_5).bind fun t254 => (if t254 = true then ((reefref20_Same.f k l0_6 l1_6).bind fun t255 => (if t255 = true then ((reefref19_Same.f k l0_7 l1_7).bind fun t256 => (some t256)) else (some false))) else (some false))) else (some false)) else (some false)) else (some false)) = some r := h
  clear h
  by_cases c3 : (a0_0 == a1_0 && (a0_1 == a1_1)) = true
  · rw [if_pos c3] at H
    have c3b0 : (a0_0 == a1_0 && (a0_1 == a1_1)) = true := c3
    (try (have c3b1 : decide (a0_0 = a1_0 && (a0_1 == a1_1)) = true := by simpa using c3))
    (try (have c3b2 : (a0_0 == a1_0 && (a0_1 == a1_1)) = true := by simpa using c3))
    clear c3
    by_cases c4 : a0_2 = a1_2
    · rw [if_pos c4] at H
      have c4b0 : (a0_2 == a1_2) = true := beq_iff_eq.mpr c4
      have c4b1 : (a0_2 != a1_2) = false := bne_eq_false_iff_eq.mpr c4
      clear c4
      by_cases c5 : (a0_3 == a1_3 && (a0_4 == a1_4)) = true
      · rw [if_pos c5] at H
        have c5b0 : (a0_3 == a1_3 && (a0_4 == a1_4)) = true := c5
        (try (have c5b1 : decide (a0_3 = a1_3 && (a0_4 == a1_4)) = true := by simpa using c5))
        (try (have c5b2 : (a0_3 == a1_3 && (a0_4 == a1_4)) = true := by simpa using c5))
        clear c5
        replace H := Option.bind_eq_some_iff.mp H
        obtain ⟨t254, A60, H⟩ := H
        replace H : (if t254 = true then ((reefref20_Same.f k l0_6 l1_6).bind fun t255 => (if t255 = true then ((reefref19_Same.f k l0_7 l1_7).bind fun t256 => (some t256)) else (some false))) else (some false)) = some r := H
        have A6 := Aside0.mk A60
        clear A60
        by_cases c7 : t254 = true
        · subst c7
          have H1 : ((reefref20_Same.f k l0_6 l1_6).bind fun t255 => (if t255 = true then ((reefref19_Same.f k l0_7 l1_7).bind fun t256 => (some t256)) else (some false))) = some r := by rw [if_pos rfl] at H; exact H
          clear H
          have H := H1
          clear H1
          replace H := Option.bind_eq_some_iff.mp H
          obtain ⟨t255, A80, H⟩ := H
          replace H : (if t255 = true then ((reefref19_Same.f k l0_7 l1_7).bind fun t256 => (some t256)) else (some false)) = some r := H
          have A8 := Aside0.mk A80
          clear A80
          by_cases c9 : t255 = true
          · subst c9
            have H1 : ((reefref19_Same.f k l0_7 l1_7).bind fun t256 => (some t256)) = some r := by rw [if_pos rfl] at H; exact H
            clear H
            have H := H1
            clear H1
            replace H := Option.bind_eq_some_iff.mp H
            obtain ⟨t256, A100, H⟩ := H
            replace H : (some t256) = some r := H
            have A10 := Aside0.mk A100
            clear A100
            obtain rfl := Option.some.inj H
            go_enter Try.func27, Try.ntmps27
            go_wp2_with (first | ((with_reducible refine gate_dst (N := 2) rfl ?_); refine box_event ?hg (N := 2) ?hd (cs := #[.int .i64 a0_0, .int .i64 a0_1, .int .i64 a0_2, .int .i64 a0_3, .int .i64 a0_4, .slice A0_5 l0_5.length c0_5, .slice A0_6 l0_6.length c0_6, .slice A0_7 l0_7.length c0_7]) (t := 55) ?hr ?_; (case hd => rfl); (case hg => rfl); (case hr => first | (go_simp; done) | (go_simp; rfl)); intro gb252 hg w11 hbox hb; have n0_ := Aside0.mk (below_step (by repeat (first | (with_reducible first | exact HB.out | apply below_alloc | apply pw_below_drewN | apply below_drew1) | exact HB.out)) hb); have n1_ := Aside0.mk (hbox); have n2_ := Aside0.mk ((by rw [hg]; exact (below_size (by repeat (first | (with_reducible first | exact HB.out | apply below_alloc | apply pw_below_drewN | apply below_drew1) | exact HB.out))) : w.heap.size ≤ gb252)); have n3_ := Aside0.mk ((by rw [hg]; exact (below_size (by repeat (first | (with_reducible first | exact HB.out | apply below_alloc | apply pw_below_drewN | apply below_drew1) | exact HB.out))) : w.heap.size ≤ gb252)); clear HB; have HB := n0_; have BK252 := n1_; have GW252 := n2_; have GE252 := n3_; clear n0_ n1_ n2_ n3_; clear hb hbox hg) | ((with_reducible refine gate_dst (N := 3) rfl ?_); refine box_event ?hg (N := 3) ?hd (cs := #[.int .i64 a1_0, .int .i64 a1_1, .int .i64 a1_2, .int .i64 a1_3, .int .i64 a1_4, .slice A1_5 l1_5.length c1_5, .slice A1_6 l1_6.length c1_6, .slice A1_7 l1_7.length c1_7]) (t := 55) ?hr ?_; (case hd => rfl); (case hg => rfl); (case hr => first | (go_simp; done) | (go_simp; rfl)); intro gb253 hg w12 hbox hb; have n0_ := Aside0.mk (blk_below (g := gb252) (o := .cells #[.int .i64 a0_0, .int .i64 a0_1, .int .i64 a0_2, .int .i64 a0_3, .int .i64 a0_4, .slice A0_5 l0_5.length c0_5, .slice A0_6 l0_6.length c0_6, .slice A0_7 l0_7.length c0_7] 55 (0, 0)) (by (with_reducible repeat (first | refine blk_drewN ?_ _ | refine blk_drew ?_ | refine blk_alloc ?_ _)); exact BK252.out) hb); have n1_ := Aside0.mk (below_step (by repeat (first | (with_reducible first | exact HB.out | apply below_alloc | apply pw_below_drewN | apply below_drew1 | refine below_set ?_ GE252.out) | exact HB.out)) hb); have n2_ := Aside0.mk (hbox); have n3_ := Aside0.mk ((by rw [hg]; exact (below_size (by repeat (first | (with_reducible first | exact HB.out | apply below_alloc | apply pw_below_drewN | apply below_drew1 | refine below_set ?_ GE252.out) | exact HB.out))) : w.heap.size ≤ gb253)); have n4_ := Aside0.mk ((by rw [hg]; exact (below_size (by repeat (first | (with_reducible first | exact HB.out | apply below_alloc | apply pw_below_drewN | apply below_drew1 | refine below_set ?_ GE252.out) | exact HB.out))) : w.heap.size ≤ gb253)); have n5_ := Aside0.mk ((by rw [hg]; exact Nat.ne_of_lt (blk_lt (g := gb252) (o := .cells #[.int .i64 a0_0, .int .i64 a0_1, .int .i64 a0_2, .int .i64 a0_3, .int .i64 a0_4, .slice A0_5 l0_5.length c0_5, .slice A0_6 l0_6.length c0_6, .slice A0_7 l0_7.length c0_7] 55 (0, 0)) (by (with_reducible repeat (first | refine blk_drewN ?_ _ | refine blk_drew ?_ | refine blk_alloc ?_ _)); exact BK252.out)) : gb252 ≠ gb253)); have n6_ := Aside0.mk ((by rw [hg]; exact Nat.ne_of_gt (blk_lt (g := gb252) (o := .cells #[.int .i64 a0_0, .int .i64 a0_1, .int .i64 a0_2, .int .i64 a0_3, .int .i64 a0_4, .slice A0_5 l0_5.length c0_5, .slice A0_6 l0_6.length c0_6, .slice A0_7 l0_7.length c0_7] 55 (0, 0)) (by (with_reducible repeat (first | refine blk_drewN ?_ _ | refine blk_drew ?_ | refine blk_alloc ?_ _)); exact BK252.out)) : gb253 ≠ gb252)); clear BK252; clear HB; have BK252 := n0_; have HB := n1_; have BK253 := n2_; have GW253 := n3_; have GE253 := n4_; have NB252_253 := n5_; have NB253_252 := n6_; clear n0_ n1_ n2_ n3_ n4_ n5_ n6_; clear hb hbox hg; have hnb13 := NB252_253.out; have hnc13 := NB253_252.out; have hcz14_0 : w12.cell? ⟨gb252, 0, none⟩ = some (.int .i64 a0_0) := (blk_cell BK252.out 0).trans rfl; have hcz14_1 : w12.cell? ⟨gb252, 1, none⟩ = some (.int .i64 a0_1) := (blk_cell BK252.out 1).trans rfl; have hcz14_2 : w12.cell? ⟨gb252, 2, none⟩ = some (.int .i64 a0_2) := (blk_cell BK252.out 2).trans rfl; have hcz14_3 : w12.cell? ⟨gb252, 3, none⟩ = some (.int .i64 a0_3) := (blk_cell BK252.out 3).trans rfl; have hcz14_4 : w12.cell? ⟨gb252, 4, none⟩ = some (.int .i64 a0_4) := (blk_cell BK252.out 4).trans rfl; have hcz14_5 : w12.cell? ⟨gb252, 5, none⟩ = some (.slice A0_5 l0_5.length c0_5) := (blk_cell BK252.out 5).trans rfl; have hcz14_6 : w12.cell? ⟨gb252, 6, none⟩ = some (.slice A0_6 l0_6.length c0_6) := (blk_cell BK252.out 6).trans rfl; have hcz14_7 : w12.cell? ⟨gb252, 7, none⟩ = some (.slice A0_7 l0_7.length c0_7) := (blk_cell BK252.out 7).trans rfl; have hfz14_0 := blk_frozen BK252.out 0; have hfz14_1 := blk_frozen BK252.out 1; have hfz14_2 := blk_frozen BK252.out 2; have hfz14_3 := blk_frozen BK252.out 3; have hfz14_4 := blk_frozen BK252.out 4; have hfz14_5 := blk_frozen BK252.out 5; have hfz14_6 := blk_frozen BK252.out 6; have hfz14_7 := blk_frozen BK252.out 7; have hcz15_0 : w12.cell? ⟨gb253, 0, none⟩ = some (.int .i64 a1_0) := (blk_cell BK253.out 0).trans rfl; have hcz15_1 : w12.cell? ⟨gb253, 1, none⟩ = some (.int .i64 a1_1) := (blk_cell BK253.out 1).trans rfl; have hcz15_2 : w12.cell? ⟨gb253, 2, none⟩ = some (.int .i64 a1_2) := (blk_cell BK253.out 2).trans rfl; have hcz15_3 : w12.cell? ⟨gb253, 3, none⟩ = some (.int .i64 a1_3) := (blk_cell BK253.out 3).trans rfl; have hcz15_4 : w12.cell? ⟨gb253, 4, none⟩ = some (.int .i64 a1_4) := (blk_cell BK253.out 4).trans rfl; have hcz15_5 : w12.cell? ⟨gb253, 5, none⟩ = some (.slice A1_5 l1_5.length c1_5) := (blk_cell BK253.out 5).trans rfl; have hcz15_6 : w12.cell? ⟨gb253, 6, none⟩ = some (.slice A1_6 l1_6.length c1_6) := (blk_cell BK253.out 6).trans rfl; have hcz15_7 : w12.cell? ⟨gb253, 7, none⟩ = some (.slice A1_7 l1_7.length c1_7) := (blk_cell BK253.out 7).trans rfl; have hfz15_0 := blk_frozen BK253.out 0; have hfz15_1 := blk_frozen BK253.out 1; have hfz15_2 := blk_frozen BK253.out 2; have hfz15_3 := blk_frozen BK253.out 3; have hfz15_4 := blk_frozen BK253.out 4; have hfz15_5 := blk_frozen BK253.out 5; have hfz15_6 := blk_frozen BK253.out 6; have hfz15_7 := blk_frozen BK253.out 7) | (go_at_call 14; (with_reducible refine (reefref21_Same.calls k _ _ l0_5 _ _ l1_5 true _ ?side1 ?side2 ?side3 ?side4 A6.out).mono ?_); (case side1 => repeat (first | exact (Kd.C_below HR0_5.out HB.out) | (with_reducible refine Kd.C_alloc ?_ _) | (with_reducible refine Kd.C_drewN ?_ _) | (with_reducible refine Kd.C_drew ?_))); (case side2 => exact HC0_5.out); (case side3 => repeat (first | exact (Kd.C_below HR1_5.out HB.out) | (with_reducible refine Kd.C_alloc ?_ _) | (with_reducible refine Kd.C_drewN ?_ _) | (with_reducible refine Kd.C_drew ?_))); (case side4 => exact HC1_5.out); rintro e w' ⟨rfl, ⟨nd, rfl⟩⟩) | (go_at_call 52; (with_reducible refine (reefref20_Same.calls k _ _ l0_6 _ _ l1_6 true _ ?side1 ?side2 ?side3 ?side4 A8.out).mono ?_); (case side1 => repeat (first | exact (Kd.C_below HR0_6.out (by repeat (first | (with_reducible first | exact HB.out | apply below_alloc | apply pw_below_drewN | apply below_drew1 | refine below_set ?_ GE252.out | refine below_set ?_ GE253.out) | exact HB.out))) | (with_reducible refine Kd.C_alloc ?_ _) | (with_reducible refine Kd.C_drewN ?_ _) | (with_reducible refine Kd.C_drew ?_))); (case side2 => exact HC0_6.out); (case side3 => repeat (first | exact (Kd.C_below HR1_6.out (by repeat (first | (with_reducible first | exact HB.out | apply below_alloc | apply pw_below_drewN | apply below_drew1 | refine below_set ?_ GE252.out | refine below_set ?_ GE253.out) | exact HB.out))) | (with_reducible refine Kd.C_alloc ?_ _) | (with_reducible refine Kd.C_drewN ?_ _) | (with_reducible refine Kd.C_drew ?_))); (case side4 => exact HC1_6.out); rintro e w' ⟨rfl, ⟨nd, rfl⟩⟩) | (go_at_call 53; (with_reducible refine (reefref19_Same.calls k _ _ l0_7 _ _ l1_7 t256 _ ?side1 ?side2 ?side3 ?side4 A10.out).mono ?_); (case side1 => repeat (first | exact (Kd.C_below HR0_7.out (by repeat (first | (with_reducible first | exact HB.out | apply below_alloc | apply pw_below_drewN | apply below_drew1 | refine below_set ?_ GE252.out | refine below_set ?_ GE253.out) | exact HB.out))) | (with_reducible refine Kd.C_alloc ?_ _) | (with_reducible refine Kd.C_drewN ?_ _) | (with_reducible refine Kd.C_drew ?_))); (case side2 => exact HC0_7.out); (case side3 => repeat (first | exact (Kd.C_below HR1_7.out (by repeat (first | (with_reducible first | exact HB.out | apply below_alloc | apply pw_below_drewN | apply below_drew1 | refine below_set ?_ GE252.out | refine below_set ?_ GE253.out) | exact HB.out))) | (with_reducible refine Kd.C_alloc ?_ _) | (with_reducible refine Kd.C_drewN ?_ _) | (with_reducible refine Kd.C_drew ?_))); (case side4 => exact HC1_7.out); rintro e w' ⟨rfl, ⟨nd, rfl⟩⟩))
            go_ret
            exact ⟨by first | rfl | (simp [errW_none, errW_some] <;> rfl) | (simp [*, errW_none, errW_some] <;> rfl), by repeat (first | (with_reducible first | exact HB.out | apply below_alloc | apply pw_below_drewN | apply below_drew1 | refine below_set ?_ GE252.out | refine below_set ?_ GE253.out) | exact HB.out)⟩
          · replace c9 := Bool.eq_false_iff.mpr c9
            subst c9
            have H1 : (some false) = some r := by rw [if_neg (show ¬ (false = true) by decide)] at H; exact H
            clear H
            have H := H1
            clear H1
            obtain rfl := Option.some.inj H
            go_enter Try.func27, Try.ntmps27
            go_wp2_with (first | ((with_reducible refine gate_dst (N := 2) rfl ?_); refine box_event ?hg (N := 2) ?hd (cs := #[.int .i64 a0_0, .int .i64 a0_1, .int .i64 a0_2, .int .i64 a0_3, .int .i64 a0_4, .slice A0_5 l0_5.length c0_5, .slice A0_6 l0_6.length c0_6, .slice A0_7 l0_7.length c0_7]) (t := 55) ?hr ?_; (case hd => rfl); (case hg => rfl); (case hr => first | (go_simp; done) | (go_simp; rfl)); intro gb252 hg w16 hbox hb; have n0_ := Aside0.mk (below_step (by repeat (first | (with_reducible first | exact HB.out | apply below_alloc | apply pw_below_drewN | apply below_drew1) | exact HB.out)) hb); have n1_ := Aside0.mk (hbox); have n2_ := Aside0.mk ((by rw [hg]; exact (below_size (by repeat (first | (with_reducible first | exact HB.out | apply below_alloc | apply pw_below_drewN | apply below_drew1) | exact HB.out))) : w.heap.size ≤ gb252)); have n3_ := Aside0.mk ((by rw [hg]; exact (below_size (by repeat (first | (with_reducible first | exact HB.out | apply below_alloc | apply pw_below_drewN | apply below_drew1) | exact HB.out))) : w.heap.size ≤ gb252)); clear HB; have HB := n0_; have BK252 := n1_; have GW252 := n2_; have GE252 := n3_; clear n0_ n1_ n2_ n3_; clear hb hbox hg) | ((with_reducible refine gate_dst (N := 3) rfl ?_); refine box_event ?hg (N := 3) ?hd (cs := #[.int .i64 a1_0, .int .i64 a1_1, .int .i64 a1_2, .int .i64 a1_3, .int .i64 a1_4, .slice A1_5 l1_5.length c1_5, .slice A1_6 l1_6.length c1_6, .slice A1_7 l1_7.length c1_7]) (t := 55) ?hr ?_; (case hd => rfl); (case hg => rfl); (case hr => first | (go_simp; done) | (go_simp; rfl)); intro gb253 hg w17 hbox hb; have n0_ := Aside0.mk (blk_below (g := gb252) (o := .cells #[.int .i64 a0_0, .int .i64 a0_1, .int .i64 a0_2, .int .i64 a0_3, .int .i64 a0_4, .slice A0_5 l0_5.length c0_5, .slice A0_6 l0_6.length c0_6, .slice A0_7 l0_7.length c0_7] 55 (0, 0)) (by (with_reducible repeat (first | refine blk_drewN ?_ _ | refine blk_drew ?_ | refine blk_alloc ?_ _)); exact BK252.out) hb); have n1_ := Aside0.mk (below_step (by repeat (first | (with_reducible first | exact HB.out | apply below_alloc | apply pw_below_drewN | apply below_drew1 | refine below_set ?_ GE252.out) | exact HB.out)) hb); have n2_ := Aside0.mk (hbox); have n3_ := Aside0.mk ((by rw [hg]; exact (below_size (by repeat (first | (with_reducible first | exact HB.out | apply below_alloc | apply pw_below_drewN | apply below_drew1 | refine below_set ?_ GE252.out) | exact HB.out))) : w.heap.size ≤ gb253)); have n4_ := Aside0.mk ((by rw [hg]; exact (below_size (by repeat (first | (with_reducible first | exact HB.out | apply below_alloc | apply pw_below_drewN | apply below_drew1 | refine below_set ?_ GE252.out) | exact HB.out))) : w.heap.size ≤ gb253)); have n5_ := Aside0.mk ((by rw [hg]; exact Nat.ne_of_lt (blk_lt (g := gb252) (o := .cells #[.int .i64 a0_0, .int .i64 a0_1, .int .i64 a0_2, .int .i64 a0_3, .int .i64 a0_4, .slice A0_5 l0_5.length c0_5, .slice A0_6 l0_6.length c0_6, .slice A0_7 l0_7.length c0_7] 55 (0, 0)) (by (with_reducible repeat (first | refine blk_drewN ?_ _ | refine blk_drew ?_ | refine blk_alloc ?_ _)); exact BK252.out)) : gb252 ≠ gb253)); have n6_ := Aside0.mk ((by rw [hg]; exact Nat.ne_of_gt (blk_lt (g := gb252) (o := .cells #[.int .i64 a0_0, .int .i64 a0_1, .int .i64 a0_2, .int .i64 a0_3, .int .i64 a0_4, .slice A0_5 l0_5.length c0_5, .slice A0_6 l0_6.length c0_6, .slice A0_7 l0_7.length c0_7] 55 (0, 0)) (by (with_reducible repeat (first | refine blk_drewN ?_ _ | refine blk_drew ?_ | refine blk_alloc ?_ _)); exact BK252.out)) : gb253 ≠ gb252)); clear BK252; clear HB; have BK252 := n0_; have HB := n1_; have BK253 := n2_; have GW253 := n3_; have GE253 := n4_; have NB252_253 := n5_; have NB253_252 := n6_; clear n0_ n1_ n2_ n3_ n4_ n5_ n6_; clear hb hbox hg; have hnb18 := NB252_253.out; have hnc18 := NB253_252.out; have hcz19_0 : w17.cell? ⟨gb252, 0, none⟩ = some (.int .i64 a0_0) := (blk_cell BK252.out 0).trans rfl; have hcz19_1 : w17.cell? ⟨gb252, 1, none⟩ = some (.int .i64 a0_1) := (blk_cell BK252.out 1).trans rfl; have hcz19_2 : w17.cell? ⟨gb252, 2, none⟩ = some (.int .i64 a0_2) := (blk_cell BK252.out 2).trans rfl; have hcz19_3 : w17.cell? ⟨gb252, 3, none⟩ = some (.int .i64 a0_3) := (blk_cell BK252.out 3).trans rfl; have hcz19_4 : w17.cell? ⟨gb252, 4, none⟩ = some (.int .i64 a0_4) := (blk_cell BK252.out 4).trans rfl; have hcz19_5 : w17.cell? ⟨gb252, 5, none⟩ = some (.slice A0_5 l0_5.length c0_5) := (blk_cell BK252.out 5).trans rfl; have hcz19_6 : w17.cell? ⟨gb252, 6, none⟩ = some (.slice A0_6 l0_6.length c0_6) := (blk_cell BK252.out 6).trans rfl; have hcz19_7 : w17.cell? ⟨gb252, 7, none⟩ = some (.slice A0_7 l0_7.length c0_7) := (blk_cell BK252.out 7).trans rfl; have hfz19_0 := blk_frozen BK252.out 0; have hfz19_1 := blk_frozen BK252.out 1; have hfz19_2 := blk_frozen BK252.out 2; have hfz19_3 := blk_frozen BK252.out 3; have hfz19_4 := blk_frozen BK252.out 4; have hfz19_5 := blk_frozen BK252.out 5; have hfz19_6 := blk_frozen BK252.out 6; have hfz19_7 := blk_frozen BK252.out 7; have hcz20_0 : w17.cell? ⟨gb253, 0, none⟩ = some (.int .i64 a1_0) := (blk_cell BK253.out 0).trans rfl; have hcz20_1 : w17.cell? ⟨gb253, 1, none⟩ = some (.int .i64 a1_1) := (blk_cell BK253.out 1).trans rfl; have hcz20_2 : w17.cell? ⟨gb253, 2, none⟩ = some (.int .i64 a1_2) := (blk_cell BK253.out 2).trans rfl; have hcz20_3 : w17.cell? ⟨gb253, 3, none⟩ = some (.int .i64 a1_3) := (blk_cell BK253.out 3).trans rfl; have hcz20_4 : w17.cell? ⟨gb253, 4, none⟩ = some (.int .i64 a1_4) := (blk_cell BK253.out 4).trans rfl; have hcz20_5 : w17.cell? ⟨gb253, 5, none⟩ = some (.slice A1_5 l1_5.length c1_5) := (blk_cell BK253.out 5).trans rfl; have hcz20_6 : w17.cell? ⟨gb253, 6, none⟩ = some (.slice A1_6 l1_6.length c1_6) := (blk_cell BK253.out 6).trans rfl; have hcz20_7 : w17.cell? ⟨gb253, 7, none⟩ = some (.slice A1_7 l1_7.length c1_7) := (blk_cell BK253.out 7).trans rfl; have hfz20_0 := blk_frozen BK253.out 0; have hfz20_1 := blk_frozen BK253.out 1; have hfz20_2 := blk_frozen BK253.out 2; have hfz20_3 := blk_frozen BK253.out 3; have hfz20_4 := blk_frozen BK253.out 4; have hfz20_5 := blk_frozen BK253.out 5; have hfz20_6 := blk_frozen BK253.out 6; have hfz20_7 := blk_frozen BK253.out 7) | (go_at_call 14; (with_reducible refine (reefref21_Same.calls k _ _ l0_5 _ _ l1_5 true _ ?side1 ?side2 ?side3 ?side4 A6.out).mono ?_); (case side1 => repeat (first | exact (Kd.C_below HR0_5.out HB.out) | (with_reducible refine Kd.C_alloc ?_ _) | (with_reducible refine Kd.C_drewN ?_ _) | (with_reducible refine Kd.C_drew ?_))); (case side2 => exact HC0_5.out); (case side3 => repeat (first | exact (Kd.C_below HR1_5.out HB.out) | (with_reducible refine Kd.C_alloc ?_ _) | (with_reducible refine Kd.C_drewN ?_ _) | (with_reducible refine Kd.C_drew ?_))); (case side4 => exact HC1_5.out); rintro e w' ⟨rfl, ⟨nd, rfl⟩⟩) | (go_at_call 52; (with_reducible refine (reefref20_Same.calls k _ _ l0_6 _ _ l1_6 false _ ?side1 ?side2 ?side3 ?side4 A8.out).mono ?_); (case side1 => repeat (first | exact (Kd.C_below HR0_6.out (by repeat (first | (with_reducible first | exact HB.out | apply below_alloc | apply pw_below_drewN | apply below_drew1 | refine below_set ?_ GE252.out | refine below_set ?_ GE253.out) | exact HB.out))) | (with_reducible refine Kd.C_alloc ?_ _) | (with_reducible refine Kd.C_drewN ?_ _) | (with_reducible refine Kd.C_drew ?_))); (case side2 => exact HC0_6.out); (case side3 => repeat (first | exact (Kd.C_below HR1_6.out (by repeat (first | (with_reducible first | exact HB.out | apply below_alloc | apply pw_below_drewN | apply below_drew1 | refine below_set ?_ GE252.out | refine below_set ?_ GE253.out) | exact HB.out))) | (with_reducible refine Kd.C_alloc ?_ _) | (with_reducible refine Kd.C_drewN ?_ _) | (with_reducible refine Kd.C_drew ?_))); (case side4 => exact HC1_6.out); rintro e w' ⟨rfl, ⟨nd, rfl⟩⟩))
            go_ret
            exact ⟨by first | rfl | (simp [errW_none, errW_some] <;> rfl) | (simp [*, errW_none, errW_some] <;> rfl), by repeat (first | (with_reducible first | exact HB.out | apply below_alloc | apply pw_below_drewN | apply below_drew1 | refine below_set ?_ GE252.out | refine below_set ?_ GE253.out) | exact HB.out)⟩
        · replace c7 := Bool.eq_false_iff.mpr c7
          subst c7
          have H1 : (some false) = some r := by rw [if_neg (show ¬ (false = true) by decide)] at H; exact H
          clear H
          have H := H1
          clear H1
          obtain rfl := Option.some.inj H
          go_enter Try.func27, Try.ntmps27
          go_wp2_with (first | ((with_reducible refine gate_dst (N := 2) rfl ?_); refine box_event ?hg (N := 2) ?hd (cs := #[.int .i64 a0_0, .int .i64 a0_1, .int .i64 a0_2, .int .i64 a0_3, .int .i64 a0_4, .slice A0_5 l0_5.length c0_5, .slice A0_6 l0_6.length c0_6, .slice A0_7 l0_7.length c0_7]) (t := 55) ?hr ?_; (case hd => rfl); (case hg => rfl); (case hr => first | (go_simp; done) | (go_simp; rfl)); intro gb252 hg w21 hbox hb; have n0_ := Aside0.mk (below_step (by repeat (first | (with_reducible first | exact HB.out | apply below_alloc | apply pw_below_drewN | apply below_drew1) | exact HB.out)) hb); have n1_ := Aside0.mk (hbox); have n2_ := Aside0.mk ((by rw [hg]; exact (below_size (by repeat (first | (with_reducible first | exact HB.out | apply below_alloc | apply pw_below_drewN | apply below_drew1) | exact HB.out))) : w.heap.size ≤ gb252)); have n3_ := Aside0.mk ((by rw [hg]; exact (below_size (by repeat (first | (with_reducible first | exact HB.out | apply below_alloc | apply pw_below_drewN | apply below_drew1) | exact HB.out))) : w.heap.size ≤ gb252)); clear HB; have HB := n0_; have BK252 := n1_; have GW252 := n2_; have GE252 := n3_; clear n0_ n1_ n2_ n3_; clear hb hbox hg) | ((with_reducible refine gate_dst (N := 3) rfl ?_); refine box_event ?hg (N := 3) ?hd (cs := #[.int .i64 a1_0, .int .i64 a1_1, .int .i64 a1_2, .int .i64 a1_3, .int .i64 a1_4, .slice A1_5 l1_5.length c1_5, .slice A1_6 l1_6.length c1_6, .slice A1_7 l1_7.length c1_7]) (t := 55) ?hr ?_; (case hd => rfl); (case hg => rfl); (case hr => first | (go_simp; done) | (go_simp; rfl)); intro gb253 hg w22 hbox hb; have n0_ := Aside0.mk (blk_below (g := gb252) (o := .cells #[.int .i64 a0_0, .int .i64 a0_1, .int .i64 a0_2, .int .i64 a0_3, .int .i64 a0_4, .slice A0_5 l0_5.length c0_5, .slice A0_6 l0_6.length c0_6, .slice A0_7 l0_7.length c0_7] 55 (0, 0)) (by (with_reducible repeat (first | refine blk_drewN ?_ _ | refine blk_drew ?_ | refine blk_alloc ?_ _)); exact BK252.out) hb); have n1_ := Aside0.mk (below_step (by repeat (first | (with_reducible first | exact HB.out | apply below_alloc | apply pw_below_drewN | apply below_drew1 | refine below_set ?_ GE252.out) | exact HB.out)) hb); have n2_ := Aside0.mk (hbox); have n3_ := Aside0.mk ((by rw [hg]; exact (below_size (by repeat (first | (with_reducible first | exact HB.out | apply below_alloc | apply pw_below_drewN | apply below_drew1 | refine below_set ?_ GE252.out) | exact HB.out))) : w.heap.size ≤ gb253)); have n4_ := Aside0.mk ((by rw [hg]; exact (below_size (by repeat (first | (with_reducible first | exact HB.out | apply below_alloc | apply pw_below_drewN | apply below_drew1 | refine below_set ?_ GE252.out) | exact HB.out))) : w.heap.size ≤ gb253)); have n5_ := Aside0.mk ((by rw [hg]; exact Nat.ne_of_lt (blk_lt (g := gb252) (o := .cells #[.int .i64 a0_0, .int .i64 a0_1, .int .i64 a0_2, .int .i64 a0_3, .int .i64 a0_4, .slice A0_5 l0_5.length c0_5, .slice A0_6 l0_6.length c0_6, .slice A0_7 l0_7.length c0_7] 55 (0, 0)) (by (with_reducible repeat (first | refine blk_drewN ?_ _ | refine blk_drew ?_ | refine blk_alloc ?_ _)); exact BK252.out)) : gb252 ≠ gb253)); have n6_ := Aside0.mk ((by rw [hg]; exact Nat.ne_of_gt (blk_lt (g := gb252) (o := .cells #[.int .i64 a0_0, .int .i64 a0_1, .int .i64 a0_2, .int .i64 a0_3, .int .i64 a0_4, .slice A0_5 l0_5.length c0_5, .slice A0_6 l0_6.length c0_6, .slice A0_7 l0_7.length c0_7] 55 (0, 0)) (by (with_reducible repeat (first | refine blk_drewN ?_ _ | refine blk_drew ?_ | refine blk_alloc ?_ _)); exact BK252.out)) : gb253 ≠ gb252)); clear BK252; clear HB; have BK252 := n0_; have HB := n1_; have BK253 := n2_; have GW253 := n3_; have GE253 := n4_; have NB252_253 := n5_; have NB253_252 := n6_; clear n0_ n1_ n2_ n3_ n4_ n5_ n6_; clear hb hbox hg; have hnb23 := NB252_253.out; have hnc23 := NB253_252.out; have hcz24_0 : w22.cell? ⟨gb252, 0, none⟩ = some (.int .i64 a0_0) := (blk_cell BK252.out 0).trans rfl; have hcz24_1 : w22.cell? ⟨gb252, 1, none⟩ = some (.int .i64 a0_1) := (blk_cell BK252.out 1).trans rfl; have hcz24_2 : w22.cell? ⟨gb252, 2, none⟩ = some (.int .i64 a0_2) := (blk_cell BK252.out 2).trans rfl; have hcz24_3 : w22.cell? ⟨gb252, 3, none⟩ = some (.int .i64 a0_3) := (blk_cell BK252.out 3).trans rfl; have hcz24_4 : w22.cell? ⟨gb252, 4, none⟩ = some (.int .i64 a0_4) := (blk_cell BK252.out 4).trans rfl; have hcz24_5 : w22.cell? ⟨gb252, 5, none⟩ = some (.slice A0_5 l0_5.length c0_5) := (blk_cell BK252.out 5).trans rfl; have hcz24_6 : w22.cell? ⟨gb252, 6, none⟩ = some (.slice A0_6 l0_6.length c0_6) := (blk_cell BK252.out 6).trans rfl; have hcz24_7 : w22.cell? ⟨gb252, 7, none⟩ = some (.slice A0_7 l0_7.length c0_7) := (blk_cell BK252.out 7).trans rfl; have hfz24_0 := blk_frozen BK252.out 0; have hfz24_1 := blk_frozen BK252.out 1; have hfz24_2 := blk_frozen BK252.out 2; have hfz24_3 := blk_frozen BK252.out 3; have hfz24_4 := blk_frozen BK252.out 4; have hfz24_5 := blk_frozen BK252.out 5; have hfz24_6 := blk_frozen BK252.out 6; have hfz24_7 := blk_frozen BK252.out 7; have hcz25_0 : w22.cell? ⟨gb253, 0, none⟩ = some (.int .i64 a1_0) := (blk_cell BK253.out 0).trans rfl; have hcz25_1 : w22.cell? ⟨gb253, 1, none⟩ = some (.int .i64 a1_1) := (blk_cell BK253.out 1).trans rfl; have hcz25_2 : w22.cell? ⟨gb253, 2, none⟩ = some (.int .i64 a1_2) := (blk_cell BK253.out 2).trans rfl; have hcz25_3 : w22.cell? ⟨gb253, 3, none⟩ = some (.int .i64 a1_3) := (blk_cell BK253.out 3).trans rfl; have hcz25_4 : w22.cell? ⟨gb253, 4, none⟩ = some (.int .i64 a1_4) := (blk_cell BK253.out 4).trans rfl; have hcz25_5 : w22.cell? ⟨gb253, 5, none⟩ = some (.slice A1_5 l1_5.length c1_5) := (blk_cell BK253.out 5).trans rfl; have hcz25_6 : w22.cell? ⟨gb253, 6, none⟩ = some (.slice A1_6 l1_6.length c1_6) := (blk_cell BK253.out 6).trans rfl; have hcz25_7 : w22.cell? ⟨gb253, 7, none⟩ = some (.slice A1_7 l1_7.length c1_7) := (blk_cell BK253.out 7).trans rfl; have hfz25_0 := blk_frozen BK253.out 0; have hfz25_1 := blk_frozen BK253.out 1; have hfz25_2 := blk_frozen BK253.out 2; have hfz25_3 := blk_frozen BK253.out 3; have hfz25_4 := blk_frozen BK253.out 4; have hfz25_5 := blk_frozen BK253.out 5; have hfz25_6 := blk_frozen BK253.out 6; have hfz25_7 := blk_frozen BK253.out 7) | (go_at_call 14; (with_reducible refine (reefref21_Same.calls k _ _ l0_5 _ _ l1_5 false _ ?side1 ?side2 ?side3 ?side4 A6.out).mono ?_); (case side1 => repeat (first | exact (Kd.C_below HR0_5.out HB.out) | (with_reducible refine Kd.C_alloc ?_ _) | (with_reducible refine Kd.C_drewN ?_ _) | (with_reducible refine Kd.C_drew ?_))); (case side2 => exact HC0_5.out); (case side3 => repeat (first | exact (Kd.C_below HR1_5.out HB.out) | (with_reducible refine Kd.C_alloc ?_ _) | (with_reducible refine Kd.C_drewN ?_ _) | (with_reducible refine Kd.C_drew ?_))); (case side4 => exact HC1_5.out); rintro e w' ⟨rfl, ⟨nd, rfl⟩⟩))
          go_ret
          exact ⟨by first | rfl | (simp [errW_none, errW_some] <;> rfl) | (simp [*, errW_none, errW_some] <;> rfl), by repeat (first | (with_reducible first | exact HB.out | apply below_alloc | apply pw_below_drewN | apply below_drew1 | refine below_set ?_ GE252.out | refine below_set ?_ GE253.out) | exact HB.out)⟩
      · rw [if_neg c5] at H
        have c5b0 : (a0_3 == a1_3 && (a0_4 == a1_4)) = false := by simpa using c5
        (try (have c5b1 : decide (a0_3 = a1_3 && (a0_4 == a1_4)) = false := by simpa using c5))
        (try (have c5b2 : (a0_3 == a1_3 && (a0_4 == a1_4)) = false := by simpa using c5))
        (try (have c5b3 : ¬ (a0_3 = a1_3 && (a0_4 == a1_4)) := by simpa using c5))
        clear c5
        obtain rfl := Option.some.inj H
        go_enter Try.func27, Try.ntmps27
        go_wp2_with (first | ((with_reducible refine gate_dst (N := 2) rfl ?_); refine box_event ?hg (N := 2) ?hd (cs := #[.int .i64 a0_0, .int .i64 a0_1, .int .i64 a0_2, .int .i64 a0_3, .int .i64 a0_4, .slice A0_5 l0_5.length c0_5, .slice A0_6 l0_6.length c0_6, .slice A0_7 l0_7.length c0_7]) (t := 55) ?hr ?_; (case hd => rfl); (case hg => rfl); (case hr => first | (go_simp; done) | (go_simp; rfl)); intro gb252 hg w26 hbox hb; have n0_ := Aside0.mk (below_step (by repeat (first | (with_reducible first | exact HB.out | apply below_alloc | apply pw_below_drewN | apply below_drew1) | exact HB.out)) hb); have n1_ := Aside0.mk (hbox); have n2_ := Aside0.mk ((by rw [hg]; exact (below_size (by repeat (first | (with_reducible first | exact HB.out | apply below_alloc | apply pw_below_drewN | apply below_drew1) | exact HB.out))) : w.heap.size ≤ gb252)); have n3_ := Aside0.mk ((by rw [hg]; exact (below_size (by repeat (first | (with_reducible first | exact HB.out | apply below_alloc | apply pw_below_drewN | apply below_drew1) | exact HB.out))) : w.heap.size ≤ gb252)); clear HB; have HB := n0_; have BK252 := n1_; have GW252 := n2_; have GE252 := n3_; clear n0_ n1_ n2_ n3_; clear hb hbox hg) | ((with_reducible refine gate_dst (N := 3) rfl ?_); refine box_event ?hg (N := 3) ?hd (cs := #[.int .i64 a1_0, .int .i64 a1_1, .int .i64 a1_2, .int .i64 a1_3, .int .i64 a1_4, .slice A1_5 l1_5.length c1_5, .slice A1_6 l1_6.length c1_6, .slice A1_7 l1_7.length c1_7]) (t := 55) ?hr ?_; (case hd => rfl); (case hg => rfl); (case hr => first | (go_simp; done) | (go_simp; rfl)); intro gb253 hg w27 hbox hb; have n0_ := Aside0.mk (blk_below (g := gb252) (o := .cells #[.int .i64 a0_0, .int .i64 a0_1, .int .i64 a0_2, .int .i64 a0_3, .int .i64 a0_4, .slice A0_5 l0_5.length c0_5, .slice A0_6 l0_6.length c0_6, .slice A0_7 l0_7.length c0_7] 55 (0, 0)) (by (with_reducible repeat (first | refine blk_drewN ?_ _ | refine blk_drew ?_ | refine blk_alloc ?_ _)); exact BK252.out) hb); have n1_ := Aside0.mk (below_step (by repeat (first | (with_reducible first | exact HB.out | apply below_alloc | apply pw_below_drewN | apply below_drew1 | refine below_set ?_ GE252.out) | exact HB.out)) hb); have n2_ := Aside0.mk (hbox); have n3_ := Aside0.mk ((by rw [hg]; exact (below_size (by repeat (first | (with_reducible first | exact HB.out | apply below_alloc | apply pw_below_drewN | apply below_drew1 | refine below_set ?_ GE252.out) | exact HB.out))) : w.heap.size ≤ gb253)); have n4_ := Aside0.mk ((by rw [hg]; exact (below_size (by repeat (first | (with_reducible first | exact HB.out | apply below_alloc | apply pw_below_drewN | apply below_drew1 | refine below_set ?_ GE252.out) | exact HB.out))) : w.heap.size ≤ gb253)); have n5_ := Aside0.mk ((by rw [hg]; exact Nat.ne_of_lt (blk_lt (g := gb252) (o := .cells #[.int .i64 a0_0, .int .i64 a0_1, .int .i64 a0_2, .int .i64 a0_3, .int .i64 a0_4, .slice A0_5 l0_5.length c0_5, .slice A0_6 l0_6.length c0_6, .slice A0_7 l0_7.length c0_7] 55 (0, 0)) (by (with_reducible repeat (first | refine blk_drewN ?_ _ | refine blk_drew ?_ | refine blk_alloc ?_ _)); exact BK252.out)) : gb252 ≠ gb253)); have n6_ := Aside0.mk ((by rw [hg]; exact Nat.ne_of_gt (blk_lt (g := gb252) (o := .cells #[.int .i64 a0_0, .int .i64 a0_1, .int .i64 a0_2, .int .i64 a0_3, .int .i64 a0_4, .slice A0_5 l0_5.length c0_5, .slice A0_6 l0_6.length c0_6, .slice A0_7 l0_7.length c0_7] 55 (0, 0)) (by (with_reducible repeat (first | refine blk_drewN ?_ _ | refine blk_drew ?_ | refine blk_alloc ?_ _)); exact BK252.out)) : gb253 ≠ gb252)); clear BK252; clear HB; have BK252 := n0_; have HB := n1_; have BK253 := n2_; have GW253 := n3_; have GE253 := n4_; have NB252_253 := n5_; have NB253_252 := n6_; clear n0_ n1_ n2_ n3_ n4_ n5_ n6_; clear hb hbox hg; have hnb28 := NB252_253.out; have hnc28 := NB253_252.out; have hcz29_0 : w27.cell? ⟨gb252, 0, none⟩ = some (.int .i64 a0_0) := (blk_cell BK252.out 0).trans rfl; have hcz29_1 : w27.cell? ⟨gb252, 1, none⟩ = some (.int .i64 a0_1) := (blk_cell BK252.out 1).trans rfl; have hcz29_2 : w27.cell? ⟨gb252, 2, none⟩ = some (.int .i64 a0_2) := (blk_cell BK252.out 2).trans rfl; have hcz29_3 : w27.cell? ⟨gb252, 3, none⟩ = some (.int .i64 a0_3) := (blk_cell BK252.out 3).trans rfl; have hcz29_4 : w27.cell? ⟨gb252, 4, none⟩ = some (.int .i64 a0_4) := (blk_cell BK252.out 4).trans rfl; have hcz29_5 : w27.cell? ⟨gb252, 5, none⟩ = some (.slice A0_5 l0_5.length c0_5) := (blk_cell BK252.out 5).trans rfl; have hcz29_6 : w27.cell? ⟨gb252, 6, none⟩ = some (.slice A0_6 l0_6.length c0_6) := (blk_cell BK252.out 6).trans rfl; have hcz29_7 : w27.cell? ⟨gb252, 7, none⟩ = some (.slice A0_7 l0_7.length c0_7) := (blk_cell BK252.out 7).trans rfl; have hfz29_0 := blk_frozen BK252.out 0; have hfz29_1 := blk_frozen BK252.out 1; have hfz29_2 := blk_frozen BK252.out 2; have hfz29_3 := blk_frozen BK252.out 3; have hfz29_4 := blk_frozen BK252.out 4; have hfz29_5 := blk_frozen BK252.out 5; have hfz29_6 := blk_frozen BK252.out 6; have hfz29_7 := blk_frozen BK252.out 7; have hcz30_0 : w27.cell? ⟨gb253, 0, none⟩ = some (.int .i64 a1_0) := (blk_cell BK253.out 0).trans rfl; have hcz30_1 : w27.cell? ⟨gb253, 1, none⟩ = some (.int .i64 a1_1) := (blk_cell BK253.out 1).trans rfl; have hcz30_2 : w27.cell? ⟨gb253, 2, none⟩ = some (.int .i64 a1_2) := (blk_cell BK253.out 2).trans rfl; have hcz30_3 : w27.cell? ⟨gb253, 3, none⟩ = some (.int .i64 a1_3) := (blk_cell BK253.out 3).trans rfl; have hcz30_4 : w27.cell? ⟨gb253, 4, none⟩ = some (.int .i64 a1_4) := (blk_cell BK253.out 4).trans rfl; have hcz30_5 : w27.cell? ⟨gb253, 5, none⟩ = some (.slice A1_5 l1_5.length c1_5) := (blk_cell BK253.out 5).trans rfl; have hcz30_6 : w27.cell? ⟨gb253, 6, none⟩ = some (.slice A1_6 l1_6.length c1_6) := (blk_cell BK253.out 6).trans rfl; have hcz30_7 : w27.cell? ⟨gb253, 7, none⟩ = some (.slice A1_7 l1_7.length c1_7) := (blk_cell BK253.out 7).trans rfl; have hfz30_0 := blk_frozen BK253.out 0; have hfz30_1 := blk_frozen BK253.out 1; have hfz30_2 := blk_frozen BK253.out 2; have hfz30_3 := blk_frozen BK253.out 3; have hfz30_4 := blk_frozen BK253.out 4; have hfz30_5 := blk_frozen BK253.out 5; have hfz30_6 := blk_frozen BK253.out 6; have hfz30_7 := blk_frozen BK253.out 7))
        go_ret
        exact ⟨by first | rfl | (simp [errW_none, errW_some] <;> rfl) | (simp [*, errW_none, errW_some] <;> rfl), by repeat (first | (with_reducible first | exact HB.out | apply below_alloc | apply pw_below_drewN | apply below_drew1 | refine below_set ?_ GE252.out | refine below_set ?_ GE253.out) | exact HB.out)⟩
    · rw [if_neg c4] at H
      have c4b0 : (a0_2 == a1_2) = false := beq_eq_false_iff_ne.mpr c4
      have c4b1 : (a0_2 != a1_2) = true := bne_iff_ne.mpr c4
      obtain rfl := Option.some.inj H
      go_enter Try.func27, Try.ntmps27
      go_wp2_with (first | ((with_reducible refine gate_dst (N := 2) rfl ?_); refine box_event ?hg (N := 2) ?hd (cs := #[.int .i64 a0_0, .int .i64 a0_1, .int .i64 a0_2, .int .i64 a0_3, .int .i64 a0_4, .slice A0_5 l0_5.length c0_5, .slice A0_6 l0_6.length c0_6, .slice A0_7 l0_7.length c0_7]) (t := 55) ?hr ?_; (case hd => rfl); (case hg => rfl); (case hr => first | (go_simp; done) | (go_simp; rfl)); intro gb252 hg w31 hbox hb; have n0_ := Aside0.mk (below_step (by repeat (first | (with_reducible first | exact HB.out | apply below_alloc | apply pw_below_drewN | apply below_drew1) | exact HB.out)) hb); have n1_ := Aside0.mk (hbox); have n2_ := Aside0.mk ((by rw [hg]; exact (below_size (by repeat (first | (with_reducible first | exact HB.out | apply below_alloc | apply pw_below_drewN | apply below_drew1) | exact HB.out))) : w.heap.size ≤ gb252)); have n3_ := Aside0.mk ((by rw [hg]; exact (below_size (by repeat (first | (with_reducible first | exact HB.out | apply below_alloc | apply pw_below_drewN | apply below_drew1) | exact HB.out))) : w.heap.size ≤ gb252)); clear HB; have HB := n0_; have BK252 := n1_; have GW252 := n2_; have GE252 := n3_; clear n0_ n1_ n2_ n3_; clear hb hbox hg) | ((with_reducible refine gate_dst (N := 3) rfl ?_); refine box_event ?hg (N := 3) ?hd (cs := #[.int .i64 a1_0, .int .i64 a1_1, .int .i64 a1_2, .int .i64 a1_3, .int .i64 a1_4, .slice A1_5 l1_5.length c1_5, .slice A1_6 l1_6.length c1_6, .slice A1_7 l1_7.length c1_7]) (t := 55) ?hr ?_; (case hd => rfl); (case hg => rfl); (case hr => first | (go_simp; done) | (go_simp; rfl)); intro gb253 hg w32 hbox hb; have n0_ := Aside0.mk (blk_below (g := gb252) (o := .cells #[.int .i64 a0_0, .int .i64 a0_1, .int .i64 a0_2, .int .i64 a0_3, .int .i64 a0_4, .slice A0_5 l0_5.length c0_5, .slice A0_6 l0_6.length c0_6, .slice A0_7 l0_7.length c0_7] 55 (0, 0)) (by (with_reducible repeat (first | refine blk_drewN ?_ _ | refine blk_drew ?_ | refine blk_alloc ?_ _)); exact BK252.out) hb); have n1_ := Aside0.mk (below_step (by repeat (first | (with_reducible first | exact HB.out | apply below_alloc | apply pw_below_drewN | apply below_drew1 | refine below_set ?_ GE252.out) | exact HB.out)) hb); have n2_ := Aside0.mk (hbox); have n3_ := Aside0.mk ((by rw [hg]; exact (below_size (by repeat (first | (with_reducible first | exact HB.out | apply below_alloc | apply pw_below_drewN | apply below_drew1 | refine below_set ?_ GE252.out) | exact HB.out))) : w.heap.size ≤ gb253)); have n4_ := Aside0.mk ((by rw [hg]; exact (below_size (by repeat (first | (with_reducible first | exact HB.out | apply below_alloc | apply pw_below_drewN | apply below_drew1 | refine below_set ?_ GE252.out) | exact HB.out))) : w.heap.size ≤ gb253)); have n5_ := Aside0.mk ((by rw [hg]; exact Nat.ne_of_lt (blk_lt (g := gb252) (o := .cells #[.int .i64 a0_0, .int .i64 a0_1, .int .i64 a0_2, .int .i64 a0_3, .int .i64 a0_4, .slice A0_5 l0_5.length c0_5, .slice A0_6 l0_6.length c0_6, .slice A0_7 l0_7.length c0_7] 55 (0, 0)) (by (with_reducible repeat (first | refine blk_drewN ?_ _ | refine blk_drew ?_ | refine blk_alloc ?_ _)); exact BK252.out)) : gb252 ≠ gb253)); have n6_ := Aside0.mk ((by rw [hg]; exact Nat.ne_of_gt (blk_lt (g := gb252) (o := .cells #[.int .i64 a0_0, .int .i64 a0_1, .int .i64 a0_2, .int .i64 a0_3, .int .i64 a0_4, .slice A0_5 l0_5.length c0_5, .slice A0_6 l0_6.length c0_6, .slice A0_7 l0_7.length c0_7] 55 (0, 0)) (by (with_reducible repeat (first | refine blk_drewN ?_ _ | refine blk_drew ?_ | refine blk_alloc ?_ _)); exact BK252.out)) : gb253 ≠ gb252)); clear BK252; clear HB; have BK252 := n0_; have HB := n1_; have BK253 := n2_; have GW253 := n3_; have GE253 := n4_; have NB252_253 := n5_; have NB253_252 := n6_; clear n0_ n1_ n2_ n3_ n4_ n5_ n6_; clear hb hbox hg; have hnb33 := NB252_253.out; have hnc33 := NB253_252.out; have hcz34_0 : w32.cell? ⟨gb252, 0, none⟩ = some (.int .i64 a0_0) := (blk_cell BK252.out 0).trans rfl; have hcz34_1 : w32.cell? ⟨gb252, 1, none⟩ = some (.int .i64 a0_1) := (blk_cell BK252.out 1).trans rfl; have hcz34_2 : w32.cell? ⟨gb252, 2, none⟩ = some (.int .i64 a0_2) := (blk_cell BK252.out 2).trans rfl; have hcz34_3 : w32.cell? ⟨gb252, 3, none⟩ = some (.int .i64 a0_3) := (blk_cell BK252.out 3).trans rfl; have hcz34_4 : w32.cell? ⟨gb252, 4, none⟩ = some (.int .i64 a0_4) := (blk_cell BK252.out 4).trans rfl; have hcz34_5 : w32.cell? ⟨gb252, 5, none⟩ = some (.slice A0_5 l0_5.length c0_5) := (blk_cell BK252.out 5).trans rfl; have hcz34_6 : w32.cell? ⟨gb252, 6, none⟩ = some (.slice A0_6 l0_6.length c0_6) := (blk_cell BK252.out 6).trans rfl; have hcz34_7 : w32.cell? ⟨gb252, 7, none⟩ = some (.slice A0_7 l0_7.length c0_7) := (blk_cell BK252.out 7).trans rfl; have hfz34_0 := blk_frozen BK252.out 0; have hfz34_1 := blk_frozen BK252.out 1; have hfz34_2 := blk_frozen BK252.out 2; have hfz34_3 := blk_frozen BK252.out 3; have hfz34_4 := blk_frozen BK252.out 4; have hfz34_5 := blk_frozen BK252.out 5; have hfz34_6 := blk_frozen BK252.out 6; have hfz34_7 := blk_frozen BK252.out 7; have hcz35_0 : w32.cell? ⟨gb253, 0, none⟩ = some (.int .i64 a1_0) := (blk_cell BK253.out 0).trans rfl; have hcz35_1 : w32.cell? ⟨gb253, 1, none⟩ = some (.int .i64 a1_1) := (blk_cell BK253.out 1).trans rfl; have hcz35_2 : w32.cell? ⟨gb253, 2, none⟩ = some (.int .i64 a1_2) := (blk_cell BK253.out 2).trans rfl; have hcz35_3 : w32.cell? ⟨gb253, 3, none⟩ = some (.int .i64 a1_3) := (blk_cell BK253.out 3).trans rfl; have hcz35_4 : w32.cell? ⟨gb253, 4, none⟩ = some (.int .i64 a1_4) := (blk_cell BK253.out 4).trans rfl; have hcz35_5 : w32.cell? ⟨gb253, 5, none⟩ = some (.slice A1_5 l1_5.length c1_5) := (blk_cell BK253.out 5).trans rfl; have hcz35_6 : w32.cell? ⟨gb253, 6, none⟩ = some (.slice A1_6 l1_6.length c1_6) := (blk_cell BK253.out 6).trans rfl; have hcz35_7 : w32.cell? ⟨gb253, 7, none⟩ = some (.slice A1_7 l1_7.length c1_7) := (blk_cell BK253.out 7).trans rfl; have hfz35_0 := blk_frozen BK253.out 0; have hfz35_1 := blk_frozen BK253.out 1; have hfz35_2 := blk_frozen BK253.out 2; have hfz35_3 := blk_frozen BK253.out 3; have hfz35_4 := blk_frozen BK253.out 4; have hfz35_5 := blk_frozen BK253.out 5; have hfz35_6 := blk_frozen BK253.out 6; have hfz35_7 := blk_frozen BK253.out 7))
      go_ret
      exact ⟨by first | rfl | (simp [errW_none, errW_some] <;> rfl) | (simp [*, errW_none, errW_some] <;> rfl), by repeat (first | (with_reducible first | exact HB.out | apply below_alloc | apply pw_below_drewN | apply below_drew1 | refine below_set ?_ GE252.out | refine below_set ?_ GE253.out) | exact HB.out)⟩
  · rw [if_neg c3] at H
    have c3b0 : (a0_0 == a1_0 && (a0_1 == a1_1)) = false := by simpa using c3
    (try (have c3b1 : decide (a0_0 = a1_0 && (a0_1 == a1_1)) = false := by simpa using c3))
    (try (have c3b2 : (a0_0 == a1_0 && (a0_1 == a1_1)) = false := by simpa using c3))
    (try (have c3b3 : ¬ (a0_0 = a1_0 && (a0_1 == a1_1)) := by simpa using c3))
    clear c3
    obtain rfl := Option.some.inj H
    go_enter Try.func27, Try.ntmps27
    go_wp2_with (first | ((with_reducible refine gate_dst (N := 2) rfl ?_); refine box_event ?hg (N := 2) ?hd (cs := #[.int .i64 a0_0, .int .i64 a0_1, .int .i64 a0_2, .int .i64 a0_3, .int .i64 a0_4, .slice A0_5 l0_5.length c0_5, .slice A0_6 l0_6.length c0_6, .slice A0_7 l0_7.length c0_7]) (t := 55) ?hr ?_; (case hd => rfl); (case hg => rfl); (case hr => first | (go_simp; done) | (go_simp; rfl)); intro gb252 hg w36 hbox hb; have n0_ := Aside0.mk (below_step (by repeat (first | (with_reducible first | exact HB.out | apply below_alloc | apply pw_below_drewN | apply below_drew1) | exact HB.out)) hb); have n1_ := Aside0.mk (hbox); have n2_ := Aside0.mk ((by rw [hg]; exact (below_size (by repeat (first | (with_reducible first | exact HB.out | apply below_alloc | apply pw_below_drewN | apply below_drew1) | exact HB.out))) : w.heap.size ≤ gb252)); have n3_ := Aside0.mk ((by rw [hg]; exact (below_size (by repeat (first | (with_reducible first | exact HB.out | apply below_alloc | apply pw_below_drewN | apply below_drew1) | exact HB.out))) : w.heap.size ≤ gb252)); clear HB; have HB := n0_; have BK252 := n1_; have GW252 := n2_; have GE252 := n3_; clear n0_ n1_ n2_ n3_; clear hb hbox hg) | ((with_reducible refine gate_dst (N := 3) rfl ?_); refine box_event ?hg (N := 3) ?hd (cs := #[.int .i64 a1_0, .int .i64 a1_1, .int .i64 a1_2, .int .i64 a1_3, .int .i64 a1_4, .slice A1_5 l1_5.length c1_5, .slice A1_6 l1_6.length c1_6, .slice A1_7 l1_7.length c1_7]) (t := 55) ?hr ?_; (case hd => rfl); (case hg => rfl); (case hr => first | (go_simp; done) | (go_simp; rfl)); intro gb253 hg w37 hbox hb; have n0_ := Aside0.mk (blk_below (g := gb252) (o := .cells #[.int .i64 a0_0, .int .i64 a0_1, .int .i64 a0_2, .int .i64 a0_3, .int .i64 a0_4, .slice A0_5 l0_5.length c0_5, .slice A0_6 l0_6.length c0_6, .slice A0_7 l0_7.length c0_7] 55 (0, 0)) (by (with_reducible repeat (first | refine blk_drewN ?_ _ | refine blk_drew ?_ | refine blk_alloc ?_ _)); exact BK252.out) hb); have n1_ := Aside0.mk (below_step (by repeat (first | (with_reducible first | exact HB.out | apply below_alloc | apply pw_below_drewN | apply below_drew1 | refine below_set ?_ GE252.out) | exact HB.out)) hb); have n2_ := Aside0.mk (hbox); have n3_ := Aside0.mk ((by rw [hg]; exact (below_size (by repeat (first | (with_reducible first | exact HB.out | apply below_alloc | apply pw_below_drewN | apply below_drew1 | refine below_set ?_ GE252.out) | exact HB.out))) : w.heap.size ≤ gb253)); have n4_ := Aside0.mk ((by rw [hg]; exact (below_size (by repeat (first | (with_reducible first | exact HB.out | apply below_alloc | apply pw_below_drewN | apply below_drew1 | refine below_set ?_ GE252.out) | exact HB.out))) : w.heap.size ≤ gb253)); have n5_ := Aside0.mk ((by rw [hg]; exact Nat.ne_of_lt (blk_lt (g := gb252) (o := .cells #[.int .i64 a0_0, .int .i64 a0_1, .int .i64 a0_2, .int .i64 a0_3, .int .i64 a0_4, .slice A0_5 l0_5.length c0_5, .slice A0_6 l0_6.length c0_6, .slice A0_7 l0_7.length c0_7] 55 (0, 0)) (by (with_reducible repeat (first | refine blk_drewN ?_ _ | refine blk_drew ?_ | refine blk_alloc ?_ _)); exact BK252.out)) : gb252 ≠ gb253)); have n6_ := Aside0.mk ((by rw [hg]; exact Nat.ne_of_gt (blk_lt (g := gb252) (o := .cells #[.int .i64 a0_0, .int .i64 a0_1, .int .i64 a0_2, .int .i64 a0_3, .int .i64 a0_4, .slice A0_5 l0_5.length c0_5, .slice A0_6 l0_6.length c0_6, .slice A0_7 l0_7.length c0_7] 55 (0, 0)) (by (with_reducible repeat (first | refine blk_drewN ?_ _ | refine blk_drew ?_ | refine blk_alloc ?_ _)); exact BK252.out)) : gb253 ≠ gb252)); clear BK252; clear HB; have BK252 := n0_; have HB := n1_; have BK253 := n2_; have GW253 := n3_; have GE253 := n4_; have NB252_253 := n5_; have NB253_252 := n6_; clear n0_ n1_ n2_ n3_ n4_ n5_ n6_; clear hb hbox hg; have hnb38 := NB252_253.out; have hnc38 := NB253_252.out; have hcz39_0 : w37.cell? ⟨gb252, 0, none⟩ = some (.int .i64 a0_0) := (blk_cell BK252.out 0).trans rfl; have hcz39_1 : w37.cell? ⟨gb252, 1, none⟩ = some (.int .i64 a0_1) := (blk_cell BK252.out 1).trans rfl; have hcz39_2 : w37.cell? ⟨gb252, 2, none⟩ = some (.int .i64 a0_2) := (blk_cell BK252.out 2).trans rfl; have hcz39_3 : w37.cell? ⟨gb252, 3, none⟩ = some (.int .i64 a0_3) := (blk_cell BK252.out 3).trans rfl; have hcz39_4 : w37.cell? ⟨gb252, 4, none⟩ = some (.int .i64 a0_4) := (blk_cell BK252.out 4).trans rfl; have hcz39_5 : w37.cell? ⟨gb252, 5, none⟩ = some (.slice A0_5 l0_5.length c0_5) := (blk_cell BK252.out 5).trans rfl; have hcz39_6 : w37.cell? ⟨gb252, 6, none⟩ = some (.slice A0_6 l0_6.length c0_6) := (blk_cell BK252.out 6).trans rfl; have hcz39_7 : w37.cell? ⟨gb252, 7, none⟩ = some (.slice A0_7 l0_7.length c0_7) := (blk_cell BK252.out 7).trans rfl; have hfz39_0 := blk_frozen BK252.out 0; have hfz39_1 := blk_frozen BK252.out 1; have hfz39_2 := blk_frozen BK252.out 2; have hfz39_3 := blk_frozen BK252.out 3; have hfz39_4 := blk_frozen BK252.out 4; have hfz39_5 := blk_frozen BK252.out 5; have hfz39_6 := blk_frozen BK252.out 6; have hfz39_7 := blk_frozen BK252.out 7; have hcz40_0 : w37.cell? ⟨gb253, 0, none⟩ = some (.int .i64 a1_0) := (blk_cell BK253.out 0).trans rfl; have hcz40_1 : w37.cell? ⟨gb253, 1, none⟩ = some (.int .i64 a1_1) := (blk_cell BK253.out 1).trans rfl; have hcz40_2 : w37.cell? ⟨gb253, 2, none⟩ = some (.int .i64 a1_2) := (blk_cell BK253.out 2).trans rfl; have hcz40_3 : w37.cell? ⟨gb253, 3, none⟩ = some (.int .i64 a1_3) := (blk_cell BK253.out 3).trans rfl; have hcz40_4 : w37.cell? ⟨gb253, 4, none⟩ = some (.int .i64 a1_4) := (blk_cell BK253.out 4).trans rfl; have hcz40_5 : w37.cell? ⟨gb253, 5, none⟩ = some (.slice A1_5 l1_5.length c1_5) := (blk_cell BK253.out 5).trans rfl; have hcz40_6 : w37.cell? ⟨gb253, 6, none⟩ = some (.slice A1_6 l1_6.length c1_6) := (blk_cell BK253.out 6).trans rfl; have hcz40_7 : w37.cell? ⟨gb253, 7, none⟩ = some (.slice A1_7 l1_7.length c1_7) := (blk_cell BK253.out 7).trans rfl; have hfz40_0 := blk_frozen BK253.out 0; have hfz40_1 := blk_frozen BK253.out 1; have hfz40_2 := blk_frozen BK253.out 2; have hfz40_3 := blk_frozen BK253.out 3; have hfz40_4 := blk_frozen BK253.out 4; have hfz40_5 := blk_frozen BK253.out 5; have hfz40_6 := blk_frozen BK253.out 6; have hfz40_7 := blk_frozen BK253.out 7))
    go_ret
    exact ⟨by first | rfl | (simp [errW_none, errW_some] <;> rfl) | (simp [*, errW_none, errW_some] <;> rfl), by repeat (first | (with_reducible first | exact HB.out | apply below_alloc | apply pw_below_drewN | apply below_drew1 | refine below_set ?_ GE252.out | refine below_set ?_ GE253.out) | exact HB.out)⟩
end Go.Proofs.Ytbdciklcckjknaa.P
namespace Go.Proofs.Ytbdciklcckjknaa.P
open Go.RowKit Go.Proofs.YtbdciklcckjknaaW.PrintWords Go.Proofs.YtbdciklcckjknaaW.PrintLast Go.Proofs.YtbdciklcckjknaaW.PrintMore Go.Proofs.YtbdciklcckjknaaW.HB
set_option linter.unusedVariables false
set_option linter.unusedSimpArgs false
theorem same_eq_N (a b : List S34) : ∀ (k : Nat) (i : Int), api_Entry_54.l0 k a b (a.length : Int) i = reefref21_Same.l0 k a b i := by
  intro k
  induction k with
  | zero => intro i; rfl
  | succ k ih =>
    intro i
    simp only [api_Entry_54.l0, reefref21_Same.l0]
    by_cases h1 : i < (a.length : Int)
    · rw [if_pos h1, if_pos h1]
      by_cases h2 : 0 ≤ i
      · rw [if_pos h2, if_pos h2, if_pos h1, ih]
      · rw [if_neg h2, if_neg h2, if_pos h1]
    · rw [if_neg h1, if_neg h1]
theorem same_f_N (k : Nat) (a b : List S34) : api_Entry_54.f k a b = reefref21_Same.f k a b := by
  unfold api_Entry_54.f reefref21_Same.f
  rw [same_eq_N]
theorem same_ex_N (a b : List S34) (hl : a.length ≤ 1099511627776 * 128) (hb : a.length = b.length) : ∀ (d k i : Nat), a.length = i + d → d < k → ∃ r, reefref21_Same.l0 k a b (i : Int) = some r := by
  intro d
  induction d with
  | zero =>
    intro k i h hk
    obtain ⟨k, rfl⟩ : ∃ k', k = k' + 1 := ⟨k - 1, by omega⟩
    simp only [reefref21_Same.l0]
    rw [if_neg (by omega)]
    exact ⟨_, rfl⟩
  | succ d ih =>
    intro k i h hk
    obtain ⟨k, rfl⟩ : ∃ k', k = k' + 1 := ⟨k - 1, by omega⟩
    simp only [reefref21_Same.l0]
    rw [if_pos (by omega), if_pos (by omega), if_pos (by omega), show wrap64 ((i : Int) + 1) = ((i + 1 : Nat) : Int) from by rw [wrap64_small _ (by omega) (by omega)]; omega]
    split
    · exact ⟨_, rfl⟩
    · exact ih k (i + 1) (by omega) (by omega)
theorem same_some_N (k : Nat) (a b : List S34) (hl : a.length ≤ 1099511627776 * 128) (hk : a.length < k) : ∃ r, reefref21_Same.f k a b = some r := by
  unfold reefref21_Same.f
  by_cases h : (a.length : Int) = (b.length : Int)
  · rw [if_pos h]; exact same_ex_N a b hl (by omega) a.length k 0 (by omega) hk
  · rw [if_neg h]; exact ⟨_, rfl⟩
theorem same_eq_D (a b : List S73) : ∀ (k : Nat) (i : Int), api_Dup.l0 k a b (a.length : Int) i = reefref20_Same.l0 k a b i := by
  intro k
  induction k with
  | zero => intro i; rfl
  | succ k ih =>
    intro i
    simp only [api_Dup.l0, reefref20_Same.l0]
    by_cases h1 : i < (a.length : Int)
    · rw [if_pos h1, if_pos h1]
      by_cases h2 : 0 ≤ i
      · rw [if_pos h2, if_pos h2, if_pos h1, ih]
      · rw [if_neg h2, if_neg h2, if_pos h1]
    · rw [if_neg h1, if_neg h1]
theorem same_f_D (k : Nat) (a b : List S73) : api_Dup.f k a b = reefref20_Same.f k a b := by
  unfold api_Dup.f reefref20_Same.f
  rw [same_eq_D]
theorem same_ex_D (a b : List S73) (hl : a.length ≤ 1099511627776 * 128) (hb : a.length = b.length) : ∀ (d k i : Nat), a.length = i + d → d < k → ∃ r, reefref20_Same.l0 k a b (i : Int) = some r := by
  intro d
  induction d with
  | zero =>
    intro k i h hk
    obtain ⟨k, rfl⟩ : ∃ k', k = k' + 1 := ⟨k - 1, by omega⟩
    simp only [reefref20_Same.l0]
    rw [if_neg (by omega)]
    exact ⟨_, rfl⟩
  | succ d ih =>
    intro k i h hk
    obtain ⟨k, rfl⟩ : ∃ k', k = k' + 1 := ⟨k - 1, by omega⟩
    simp only [reefref20_Same.l0]
    rw [if_pos (by omega), if_pos (by omega), if_pos (by omega), show wrap64 ((i : Int) + 1) = ((i + 1 : Nat) : Int) from by rw [wrap64_small _ (by omega) (by omega)]; omega]
    split
    · exact ⟨_, rfl⟩
    · exact ih k (i + 1) (by omega) (by omega)
theorem same_some_D (k : Nat) (a b : List S73) (hl : a.length ≤ 1099511627776 * 128) (hk : a.length < k) : ∃ r, reefref20_Same.f k a b = some r := by
  unfold reefref20_Same.f
  by_cases h : (a.length : Int) = (b.length : Int)
  · rw [if_pos h]; exact same_ex_D a b hl (by omega) a.length k 0 (by omega) hk
  · rw [if_neg h]; exact ⟨_, rfl⟩
theorem same_eq_O (a b : List S83) : ∀ (k : Nat) (i : Int), api_Object.l0 k a b (a.length : Int) i = reefref19_Same.l0 k a b i := by
  intro k
  induction k with
  | zero => intro i; rfl
  | succ k ih =>
    intro i
    simp only [api_Object.l0, reefref19_Same.l0]
    by_cases h1 : i < (a.length : Int)
    · rw [if_pos h1, if_pos h1]
      by_cases h2 : 0 ≤ i
      · rw [if_pos h2, if_pos h2, if_pos h1, ih]
      · rw [if_neg h2, if_neg h2, if_pos h1]
    · rw [if_neg h1, if_neg h1]
theorem same_f_O (k : Nat) (a b : List S83) : api_Object.f k a b = reefref19_Same.f k a b := by
  unfold api_Object.f reefref19_Same.f
  rw [same_eq_O]
theorem same_ex_O (a b : List S83) (hl : a.length ≤ 1099511627776 * 128) (hb : a.length = b.length) : ∀ (d k i : Nat), a.length = i + d → d < k → ∃ r, reefref19_Same.l0 k a b (i : Int) = some r := by
  intro d
  induction d with
  | zero =>
    intro k i h hk
    obtain ⟨k, rfl⟩ : ∃ k', k = k' + 1 := ⟨k - 1, by omega⟩
    simp only [reefref19_Same.l0]
    rw [if_neg (by omega)]
    exact ⟨_, rfl⟩
  | succ d ih =>
    intro k i h hk
    obtain ⟨k, rfl⟩ : ∃ k', k = k' + 1 := ⟨k - 1, by omega⟩
    simp only [reefref19_Same.l0]
    rw [if_pos (by omega), if_pos (by omega), if_pos (by omega), show wrap64 ((i : Int) + 1) = ((i + 1 : Nat) : Int) from by rw [wrap64_small _ (by omega) (by omega)]; omega]
    split
    · exact ⟨_, rfl⟩
    · exact ih k (i + 1) (by omega) (by omega)
theorem same_some_O (k : Nat) (a b : List S83) (hl : a.length ≤ 1099511627776 * 128) (hk : a.length < k) : ∃ r, reefref19_Same.f k a b = some r := by
  unfold reefref19_Same.f
  by_cases h : (a.length : Int) = (b.length : Int)
  · rw [if_pos h]; exact same_ex_O a b hl (by omega) a.length k 0 (by omega) hk
  · rw [if_neg h]; exact ⟨_, rfl⟩
theorem psame_f (k : Nat) (a b : List S34) : pglog_Same.f k a b = reefref21_Same.f k a b := by
  unfold pglog_Same.f
  rw [same_f_N]
  cases reefref21_Same.f k a b <;> rfl
theorem shards_f (k : Nat) (p n les le lv p' n' les' le' lv' : Int) (l l' : List S34) (d d' : List S73) (o o' : List S83) :
    pglog_Shards.f k p n les le lv l d o p' n' les' le' lv' l' d' o' = reefref21_Shards.f k p n les le lv l d o p' n' les' le' lv' l' d' o' := by
  unfold pglog_Shards.f reefref21_Shards.f
  rw [psame_f, same_f_D, same_f_O]
theorem shards_some (k : Nat) (p n les le lv p' n' les' le' lv' : Int) (l l' : List S34) (d d' : List S73) (o o' : List S83) (h1 : l.length ≤ 1099511627776 * 128) (h2 : d.length ≤ 1099511627776 * 128) (h3 : o.length ≤ 1099511627776 * 128) (k1 : l.length < k) (k2 : d.length < k) (k3 : o.length < k) :
    ∃ r, reefref21_Shards.f k p n les le lv l d o p' n' les' le' lv' l' d' o' = some r := by
  unfold reefref21_Shards.f
  obtain ⟨a, ha⟩ := same_some_N k l l' h1 k1
  obtain ⟨b, hb⟩ := same_some_D k d d' h2 k2
  obtain ⟨c, hc⟩ := same_some_O k o o' h3 k3
  rw [ha, hb, hc]
  simp only [Option.bind_some]
  repeat' split
  all_goals exact ⟨_, rfl⟩
theorem rlog_at (l : List S34) (hl : l.length ≤ 8) (e v : Int) (hf : ∀ x ∈ l, fitE x) : ∀ (d k i : Nat), l.length = i + d → 140737488351232 + d + 1 < k → okTo l i = true → reefref21_Log.l0 k l l.length i e v = some (logB l e v) := by
  intro d
  induction d with
  | zero =>
    intro k i h hk hok
    obtain ⟨k, rfl⟩ : ∃ k', k = k' + 1 := ⟨k - 1, by omega⟩
    simp only [reefref21_Log.l0]
    rw [if_neg (by omega)]
    unfold logB
    by_cases h0 : l.length = 0
    · rw [if_pos h0, if_pos (by omega)]
    · rw [if_neg h0, if_neg (by omega), wrap64_small _ (by omega) (by omega), if_pos (show (0 : Int) ≤ (l.length : Int) - 1 from by omega), if_pos (show (l.length : Int) - 1 < (l.length : Int) from by omega), if_pos (show (0 : Int) < (l.length : Int) from by omega)]
      rw [show l.length = i from by omega, hok, decide_eq_true (show i ≤ 8 from by omega)]
      rw [show ((i : Int) == 8) = (i == 8) from by rw [Bool.eq_iff_iff, beq_iff_eq, beq_iff_eq]; omega]
      by_cases h1 : ((rd_T34 l ((i : Int) - 1)).f0.f0 == e && (rd_T34 l ((i : Int) - 1)).f0.f1 == v) = true
      · rw [if_pos h1, h1]
        by_cases h2 : (rd_T34 l 0).f0.f1 = 1
        · rw [if_pos h2]; simp [h2]
        · rw [if_neg h2]; simp [h2]
      · rw [if_neg h1, Bool.eq_false_iff.2 h1]; simp
  | succ d ih =>
    intro k i h hk hok
    obtain ⟨k, rfl⟩ : ∃ k', k = k' + 1 := ⟨k - 1, by omega⟩
    have hi : i < l.length := by omega
    have hwi : wrap64 ((i : Int) + 1) = ((i + 1 : Nat) : Int) := by rw [wrap64_small _ (by omega) (by omega)]; omega
    have hbad : okAt l i = false → logB l e v = false := fun hk => by unfold logB; rw [if_neg (by omega), okTo_of l hi hk]; rfl
    have hgood : okAt l i = true → reefref21_Log.l0 k l l.length ((i + 1 : Nat) : Int) e v = some (logB l e v) := fun hk => ih k (i + 1) (by omega) (by omega) (by rw [okTo_succ, hok, hk]; rfl)
    simp only [reefref21_Log.l0]
    rw [if_pos (by omega), if_pos (by omega), if_pos (by omega), hwi]
    rw [show reefref21_Entry.f k (rd_T34 l (i : Int)).f0.f0 (rd_T34 l (i : Int)).f0.f1 (rd_T34 l (i : Int)).f1.f0 (rd_T34 l (i : Int)).f1.f1 (rd_T34 l (i : Int)).f1.f2 (rd_T34 l (i : Int)).f1.f3.f0 (rd_T34 l (i : Int)).f1.f3.f1 (rd_T34 l (i : Int)).f1.f3.f2 (rd_T34 l (i : Int)).f1.f3.f3 (rd_T34 l (i : Int)).f1.f3.f4 (rd_T34 l (i : Int)).f2.f0 (rd_T34 l (i : Int)).f2.f1 (rd_T34 l (i : Int)).f2.f2 (rd_T34 l (i : Int)).f2.f3 = some (entB (rd_T34 l (i : Int))) from rent_eq k (by omega) _ (by rw [rd_at_N l i hi]; exact hf _ (List.getElem_mem _)), Option.bind_some]
    have hdef : okAt l i = (entB (rd_T34 l i) && (i == 0 || gapOk (rd_T34 l i) (rd_T34 l ((i : Int) - 1)))) := rfl
    cases he : entB (rd_T34 l (i : Int)) with
    | false => rw [if_neg (by simp)]; rw [hbad (by rw [hdef, he]; rfl)]
    | true =>
      rw [if_pos rfl]
      by_cases h0 : (i : Int) > 0
      · rw [if_pos h0, show wrap64 ((i : Int) - 1) = (i : Int) - 1 from wrap64_small _ (by omega) (by omega), if_pos (show (0 : Int) ≤ (i : Int) - 1 from by omega), if_pos (show (i : Int) - 1 < (l.length : Int) from by omega)]
        have hi0 : (i == 0) = false := by rw [beq_eq_false_iff_ne]; omega
        by_cases h1 : (rd_T34 l (i : Int)).f0.f1 = wrap64 ((rd_T34 l ((i : Int) - 1)).f0.f1 + 1)
        · rw [if_pos h1]
          by_cases h2 : (rd_T34 l (i : Int)).f0.f0 < (rd_T34 l ((i : Int) - 1)).f0.f0
          · rw [if_pos h2, hbad (by rw [hdef, he, hi0]; unfold gapOk; simp [h2])]
          · rw [if_neg h2, hgood (by rw [hdef, he, hi0]; unfold gapOk; simp [h1]; omega)]
        · rw [if_neg h1, hbad (by rw [hdef, he, hi0]; unfold gapOk; simp [h1])]
      · rw [if_neg h0, hgood (by rw [hdef, he]; have : i = 0 := by omega
                                 subst this; rfl)]
theorem rlog_eq (K : Nat) (hK : 140737488351260 < K) (l : List S34) (e v : Int) (hf : ∀ x ∈ l, fitE x) : reefref21_Log.f K l e v = some (logB l e v) := by
  unfold reefref21_Log.f
  by_cases h : (l.length : Int) > 8
  · rw [if_pos h]
    unfold logB
    rw [if_neg (by omega), decide_eq_false (show ¬ l.length ≤ 8 from by omega)]
    simp
  · rw [if_neg h]
    exact rlog_at l (by omega) e v hf l.length K 0 (by omega) (by omega) rfl
theorem olog_eq (l : List S34) (e v : Int) : pglog_Log.f l e v = some (logB l e v) := by
  unfold pglog_Log.f
  rw [if_pos (entF_all l)]
theorem fit_same (p n les le : Int) (an lo du ob : Bool) : (pgB p n && (((decide (0 ≤ les) && decide (les ≤ 1073741824)) && !decide (les < le)) && (!an && (lo && (du && ob))))) = (pgB p n && ((!decide (les < 0) && !decide (1073741824 < les)) && (lo && (!decide (les < le) && (du && (ob && !an)))))) := by
  rw [show (!decide (les < 0)) = decide (0 ≤ les) from by rw [← decide_not]; exact decide_eq_decide.2 (by omega), show (!decide (1073741824 < les)) = decide (les ≤ 1073741824) from by rw [← decide_not]; exact decide_eq_decide.2 (by omega)]
  cases pgB p n <;> cases an <;> cases lo <;> cases du <;> cases ob <;> simp
theorem within_eq (x : Int) : pglog_within.f x 0 1073741824 = some (decide (0 ≤ x) && decide (x ≤ 1073741824)) := by
  unfold pglog_within.f
  by_cases h : x ≥ 0
  · rw [if_pos h, decide_eq_true (show 0 ≤ x from h)]; simp
  · rw [if_neg h, decide_eq_false (show ¬ 0 ≤ x from h)]; simp
theorem later_eq (a b c d : Int) : reefref21_Later.f a b c d = pglog_Later.f a b c d := rfl
theorem later_some (a b c d : Int) : ∃ r, pglog_Later.f a b c d = some r := by
  unfold pglog_Later.f
  repeat' split
  all_goals exact ⟨_, rfl⟩
end Go.Proofs.Ytbdciklcckjknaa.P
namespace Go.Proofs
open Go.Shelf
def Try.lays190_ren : Go.Shelf.Ren := ⟨fun | 190 => 33 | 125 => 57 | 258 => 56 | 128 => 78 | 129 => 79 | 302 => 69 | 303 => 70 | 304 => 71 | 305 => 72 | 306 => 73 | 307 => 74 | 308 => 75 | 309 => 76 | 310 => 77 | 333 => 82 | 329 => 83 | 330 => 84 | 334 => 85 | 335 => 86 | 336 => 87 | 344 => 88 | n => n, fun | 31 => 44 | 9 => 9 | 3 => 3 | 46 => 87 | 0 => 0 | 51 => 109 | 53 => 111 | 4 => 4 | 183 => 101 | 182 => 100 | 131 => 106 | 5 => 5 | 218 => 112 | 222 => 116 | 228 => 118 | 229 => 119 | n => n, fun | n => n⟩
theorem Try.lays190 : Go.Proofs.Lays.n190 Try.prog Try.lays190_ren := {
  mixed := by kernel_rfl
  f125 := Try.func57.trans (congrArg some (by kernel_rfl))
  f128 := Try.func78.trans (congrArg some (by kernel_rfl))
  f129 := Try.func79.trans (congrArg some (by kernel_rfl))
  f190 := Try.func33.trans (congrArg some (by kernel_rfl))
  f258 := Try.func56.trans (congrArg some (by kernel_rfl))
  f302 := Try.func69.trans (congrArg some (by kernel_rfl))
  f303 := Try.func70.trans (congrArg some (by kernel_rfl))
  f304 := Try.func71.trans (congrArg some (by kernel_rfl))
  f305 := Try.func72.trans (congrArg some (by kernel_rfl))
  f306 := Try.func73.trans (congrArg some (by kernel_rfl))
  f307 := Try.func74.trans (congrArg some (by kernel_rfl))
  f308 := Try.func75.trans (congrArg some (by kernel_rfl))
  f309 := Try.func76.trans (congrArg some (by kernel_rfl))
  f310 := Try.func77.trans (congrArg some (by kernel_rfl))
  f329 := Try.func83.trans (congrArg some (by kernel_rfl))
  f330 := Try.func84.trans (congrArg some (by kernel_rfl))
  f333 := Try.func82.trans (congrArg some (by kernel_rfl))
  f334 := Try.func85.trans (congrArg some (by kernel_rfl))
  f335 := Try.func86.trans (congrArg some (by kernel_rfl))
  f336 := Try.func87.trans (congrArg some (by kernel_rfl))
  f344 := Try.func88.trans (congrArg some (by kernel_rfl))
  t0 := Try.underlying0
  a0 := Try.isAgg0
  z0 := Try.sizeOf0
  v0 := Try.zeroValue0
  t3 := Try.underlying3
  a3 := Try.isAgg3
  z3 := Try.sizeOf3
  v3 := Try.zeroValue3
  t4 := Try.underlying4
  a4 := Try.isAgg4
  z4 := Try.sizeOf4
  v4 := Try.zeroValue4
  t5 := Try.underlying5
  a5 := Try.isAgg5
  z5 := Try.sizeOf5
  v5 := Try.zeroValue5
  t9 := Try.underlying9
  a9 := Try.isAgg9
  z9 := Try.sizeOf9
  v9 := Try.zeroValue9
  t31 := Try.underlying44
  a31 := Try.isAgg44
  z31 := Try.sizeOf44
  v31 := Try.zeroValue44
  t46 := Try.underlying87
  a46 := Try.isAgg87
  z46 := Try.sizeOf87
  v46 := Try.zeroValue87
  t51 := Try.underlying109
  a51 := Try.isAgg109
  z51 := Try.sizeOf109
  v51 := Try.zeroValue109
  t53 := Try.underlying111
  a53 := Try.isAgg111
  z53 := Try.sizeOf111
  v53 := Try.zeroValue111
  t131 := Try.underlying106
  a131 := Try.isAgg106
  z131 := Try.sizeOf106
  v131 := Try.zeroValue106
  t182 := Try.underlying100
  a182 := Try.isAgg100
  z182 := Try.sizeOf100
  v182 := Try.zeroValue100
  t183 := Try.underlying101
  a183 := Try.isAgg101
  z183 := Try.sizeOf101
  v183 := Try.zeroValue101
  t218 := Try.underlying112
  a218 := Try.isAgg112
  z218 := Try.sizeOf112
  v218 := Try.zeroValue112
  t222 := Try.underlying116
  a222 := Try.isAgg116
  z222 := Try.sizeOf116
  v222 := Try.zeroValue116
  t228 := Try.underlying118
  a228 := Try.isAgg118
  z228 := Try.sizeOf118
  v228 := Try.zeroValue118
  t229 := Try.underlying119
  a229 := Try.isAgg119
  z229 := Try.sizeOf119
  v229 := Try.zeroValue119 }
open Go.Sort Go.RowKit in
theorem Try.slices_Sort_string (blk off cap : Nat) (ss : List (List UInt8)) (w : World) (hH : Holds encStr w blk off ss.toArray) (hblk : blk < w.heap.size) (hsz : ss.length < 4611686018427387904) :
    Calls Try.prog 33 #[.slice (some ⟨blk, off, none⟩) ss.length cap] w fun e w' =>
      e = .returned (.tuple #[]) ∧ ∃ n os, w' = grow (putRow encStr (Sort.ahead w n) blk off (ss.mergeSort fun x y => decide (x ≤ y)).toArray) os := Any.slices_Sort_string Try.lays190 blk off cap ss w hH hblk hsz
def Try.lays194_ren : Go.Shelf.Ren := ⟨fun | 194 => 34 | n => n, fun | 31 => 44 | 9 => 9 | 3 => 3 | 4 => 4 | 0 => 0 | n => n, fun | n => n⟩
theorem Try.lays194 : Go.Proofs.Lays.n194 Try.prog Try.lays194_ren := {
  mixed := by kernel_rfl
  f194 := Try.func34.trans (congrArg some (by kernel_rfl))
  t0 := Try.underlying0
  a0 := Try.isAgg0
  z0 := Try.sizeOf0
  v0 := Try.zeroValue0
  t3 := Try.underlying3
  a3 := Try.isAgg3
  z3 := Try.sizeOf3
  v3 := Try.zeroValue3
  t4 := Try.underlying4
  a4 := Try.isAgg4
  z4 := Try.sizeOf4
  v4 := Try.zeroValue4
  t9 := Try.underlying9
  a9 := Try.isAgg9
  z9 := Try.sizeOf9
  v9 := Try.zeroValue9
  t31 := Try.underlying44
  a31 := Try.isAgg44
  z31 := Try.sizeOf44
  v31 := Try.zeroValue44 }
open Go.RowKit Go.Lib Go.Sort in
theorem Try.slices_Compact_string (blk off cap : Nat) (zs : List (List UInt8)) (w : World) (hH : Holds encStr w blk off zs.toArray) (hsz : zs.length ≤ 9223372036854775807) (hcap : zs.length ≤ cap) :
    Calls Try.prog 34 #[.slice (some ⟨blk, off, none⟩) zs.length cap] w fun e w' => e = .returned (.slice (some ⟨blk, off, none⟩) (Lib.compact zs).length cap) ∧ ∃ q, w' = putRow encStr (Sort.ahead w q) blk off (Lib.compact zs ++ List.replicate (zs.length - (Lib.compact zs).length) []).toArray := Any.slices_Compact_string Try.lays194 blk off cap zs w hH hsz hcap
open Go.RowKit Go.Lib Go.Sort in
theorem Try.slices_Compact_string_empty (a : Option Addr) (cap : Nat) (w : World) :
    Calls Try.prog 34 #[.slice a 0 cap] w fun e w' => e = .returned (.slice a 0 cap) ∧ w' = w := Any.slices_Compact_string_empty Try.lays194 a cap w
open Go.RowKit Go.Sort in
theorem Try.slices_Sort_string_none (p : Option Addr) (cap : Nat) (w : World) :
    Calls Try.prog 33 #[.slice p 0 cap] w fun e w' => e = .returned (.tuple #[]) ∧ w' = w := Any.slices_Sort_string_none Try.lays190 p cap w
end Go.Proofs
namespace Go.Proofs.Ytbdciklcckjknaa.P
open Go.RowKit Go.Proofs.YtbdciklcckjknaaW.PrintWords Go.Proofs.YtbdciklcckjknaaW.PrintLast Go.Proofs.YtbdciklcckjknaaW.PrintMore Go.Proofs.YtbdciklcckjknaaW.HB
set_option linter.unusedVariables false
def tl (xs : List ByteArray) : List (List UInt8) := xs.map (fun b => b.data.toList)
def fl (ss : List (List UInt8)) : List ByteArray := ss.map (fun l => ⟨l.toArray⟩)
theorem fl_tl (xs : List ByteArray) : fl (tl xs) = xs := by
  unfold fl tl
  rw [List.map_map]
  conv => rhs; rw [← List.map_id xs]
  rfl
theorem tl_len (xs : List ByteArray) : (tl xs).length = xs.length := by simp [tl]
theorem fl_len (xs : List (List UInt8)) : (fl xs).length = xs.length := by simp [fl]
theorem enc_fl (ss : List (List UInt8)) : (fl ss).map Value.string = ss.map encStr := by simp [fl, encStr]
theorem enc_tl (xs : List ByteArray) : xs.map Value.string = (tl xs).map encStr := by rw [← enc_fl, fl_tl]
theorem Reps_str {w : World} {base : Nat} {ok : Nat → Prop} (xs : List ByteArray) (cs : List Value) : Reps (Kd.string.M w base ok) 1 xs cs ↔ cs = xs.map Value.string := by
  constructor
  · rintro ⟨h1, h2⟩
    apply List.ext_getElem (by simpa using h1)
    intro j hj hj'
    have hx : j < xs.length := by simpa using hj'
    have h3 : List.take 1 (List.drop (j * 1) cs) = [.string xs[j]] := h2 j xs[j] (List.getElem?_eq_getElem hx)
    have h3 := congrArg (fun l : List Value => l[0]?) h3
    simp [List.getElem?_drop, List.getElem?_eq_getElem hj] at h3
    simpa using h3
  · rintro rfl
    refine ⟨by simp, fun j p hj => ?_⟩
    obtain ⟨hlt, rfl⟩ := List.getElem?_eq_some_iff.1 hj
    rw [Nat.mul_one, List.drop_eq_getElem_cons (by simpa using hlt)]
    have : Kd.string.M w base ok xs[j] [.string xs[j]] := rfl
    simpa using this
theorem ownS_of_R {e : Nat} {w : World} {base : Nat} {ok : Nat → Prop} {v : Value} {xs : List ByteArray} (h : Kd.R Kd.string e w base ok v xs) : w.ownsRow base e 1 v xs.length ((tl xs).map encStr) := by
  obtain ⟨_, inner, ho, hr⟩ := h
  rw [← enc_tl, ← (Reps_str xs inner).1 hr]
  exact ho
theorem RS_of_own {e : Nat} {w : World} {base : Nat} {ok : Nat → Prop} {v : Value} {ss : List (List UInt8)} (h0 : ∀ b, v.ownBlock = some b → ok b) (h : w.ownsRow base e 1 v ss.length (ss.map encStr)) : Kd.R Kd.string e w base ok v (fl ss) :=
  ⟨h0, _, by rw [fl_len]; exact h, (Reps_str (fl ss) _).2 (enc_fl ss).symm⟩
theorem sort_S (A : Option Addr) (c n : Nat) (xs : List ByteArray) (e base : Nat) (ok : Nat → Prop) (w : World) (hn : xs.length = n) (hR : Kd.R Kd.string e w base ok (.slice A n c) xs) (hl : n < 4611686018427387904) :
    Calls Try.prog 33 #[.slice A n c] w fun e' w' => e' = .returned (.tuple #[]) ∧ Kd.R Kd.string e w' base ok (.slice A n c) (fl ((tl xs).mergeSort fun x y => decide (x ≤ y))) ∧ ∃ row, w.grownBy w' row ∧ ∀ k, row = some k → (Value.slice A n c).ownBlock = some k := by
  subst hn
  have h0 := hR.1
  rcases (ownS_of_R hR).2 with ⟨h1, _⟩ | ⟨g, cap, cur, hv, hb, hg, hc1, hc2, hc3, hc4⟩
  · injection h1 with h1 h2 h3
    subst h1 h3
    obtain rfl := List.eq_nil_of_length_eq_zero h2
    refine (Try.slices_Sort_string_none none 0 w).mono ?_
    rintro e' w' ⟨rfl, rfl⟩
    exact ⟨rfl, by simpa [tl, fl] using hR, none, grown_of_below (Below.refl _ _) _, fun k e => by cases e⟩
  · injection hv with hv1 _ hv3
    subst hv1 hv3
    rw [Nat.mul_one] at hc4
    have hlt := tl_len xs
    generalize htl : tl xs = ss at *
    rw [← hlt] at hl hc1 hc4 ⊢
    refine (Try.slices_Sort_string g 0 c ss w (holds_of_block hg hc4) (Array.getElem?_eq_some_iff.1 hg).1 hl).mono ?_
    rintro e' w' ⟨rfl, n, os, rfl⟩
    have := ownsRow_sorted (w := w) (base := base) (g := g) (cap := c) (n := n) (os := os) (ss := ss) (ts := ss.mergeSort fun x y => decide (x ≤ y)) (by simp) hb hg hc1 hc2 hc3
    refine ⟨rfl, RS_of_own (fun b hb' => h0 b (by simpa [Value.ownBlock] using hb')) (by simpa using this), some g, grownBy_sorted _, fun k e => by cases e; rfl⟩
theorem compactS_le (xs : List (List UInt8)) : (Lib.compact xs).length ≤ xs.length := by
  unfold Lib.compact Lib.compactUpTo
  rw [List.length_map]
  exact Nat.le_trans (List.length_filter_le _ _) (by simp)
theorem compact_S (A : Option Addr) (c n : Nat) (ss : List (List UInt8)) (e base : Nat) (ok : Nat → Prop) (w : World) (hn : ss.length = n) (hR : Kd.R Kd.string e w base ok (.slice A n c) (fl ss)) (hl : n < 4611686018427387904) :
    Calls Try.prog 34 #[.slice A n c] w fun e' w' => e' = .returned (.slice A (Lib.compact ss).length c) ∧ Kd.R Kd.string e w' base ok (.slice A (Lib.compact ss).length c) (fl (Lib.compact ss)) ∧ ∃ row, w.grownBy w' row ∧ ∀ k, row = some k → (Value.slice A n c).ownBlock = some k := by
  subst hn
  have h0 := hR.1
  have hown := ownS_of_R hR
  rw [fl_len, ← enc_tl, enc_fl] at hown
  rcases hown.2 with ⟨h1, _⟩ | ⟨g, cap, cur, hv, hb, hg, hc1, hc2, hc3, hc4⟩
  · injection h1 with h1 h2 h3
    subst h1 h3
    obtain rfl := List.eq_nil_of_length_eq_zero h2
    have e0 : Lib.compact ([] : List (List UInt8)) = [] := rfl
    refine (Try.slices_Compact_string_empty none 0 w).mono ?_
    rintro e' w' ⟨rfl, rfl⟩
    rw [e0]
    exact ⟨rfl, hR, none, grown_of_below (Below.refl _ _) _, fun k e => by cases e⟩
  · injection hv with hv1 _ hv3
    subst hv1 hv3
    rw [Nat.mul_one] at hc4
    have hle := compactS_le ss
    refine (Try.slices_Compact_string g 0 c ss w (holds_of_block hg hc4) (by omega) hc1).mono ?_
    rintro e' w' ⟨rfl, q, rfl⟩
    generalize hcx : Lib.compact ss = cx at *
    have hts : (cx ++ List.replicate (ss.length - cx.length) ([] : List UInt8)).length = ss.length := by simp; omega
    have hgr : ∀ W : World, Go.Sort.grow W #[] = W := fun W => by simp [Go.Sort.grow]
    rw [← hgr (Sort.putRow _ _ _ _ _)]
    have hsz : cur.size = c := by rw [hc3, Nat.mul_one]
    refine ⟨rfl, RS_of_own (fun b hb' => h0 b (by simpa [Value.ownBlock] using hb')) ⟨by simp, .inr ⟨g, c, _, rfl, hb, heap_sorted _ hg, by omega, hc2, ?_, ?_⟩⟩, some g, grownBy_sorted _, fun k e => by cases e; rfl⟩
    · simp [Sort.putCells, hc3]
    · have h2 := take_putCells cur (cx ++ List.replicate (ss.length - cx.length) ([] : List UInt8)) (by rw [hts, hsz]; exact hc1)
      have h3 := congrArg (List.take cx.length) h2
      rw [List.take_take, Nat.min_eq_left (by rw [hts]; exact hle), List.map_append, List.take_append_of_le_length (by simp)] at h3
      rw [Nat.mul_one]
      exact h3.trans (List.take_of_length_le (by simp))
end Go.Proofs.Ytbdciklcckjknaa.P
namespace Go.Proofs.Ytbdciklcckjknaa.P
open Go.RowKit Go.Proofs.YtbdciklcckjknaaW.PrintWords Go.Proofs.YtbdciklcckjknaaW.PrintLast Go.Proofs.YtbdciklcckjknaaW.PrintMore Go.Proofs.YtbdciklcckjknaaW.HB
set_option linter.unusedVariables false
set_option linter.unusedSimpArgs false
def nmE (x : S34) : ByteArray := x.f1.f3.f1
def pglog_Names.f (l0 : List S34) : Option (List ByteArray) := if l0.length < 8796093022208 then some (fl (Lib.compact ((tl (l0.map nmE)).mergeSort fun x y => decide (x ≤ y)))) else none
theorem infoStr : (Try.prog.info? 9).map (fun i => (i.zero, i.size, i.bytes)) = some (some (.string ⟨#[]⟩), 1, 16) := by kernel_rfl
theorem R_append_str {w : World} {base : Nat} {ok : Nat → Prop} (s : ByteArray) (hb : base ≤ w.heap.size) : Kd.C Kd.string (w.alloc (.cells #[.string s] 9)) (some ⟨w.heap.size, 0, none⟩) 1 [s] :=
  (Kd.R_reads' (R_one (d := Kd.string) (e := 9) (w := w) (base := base) (ok := fun _ => True) (x := s) (cs := #[.string s]) rfl hb trivial)).2.2
set_option maxRecDepth 100000 in
set_option maxHeartbeats 4000000 in
theorem pglog_Names.calls (A0 : Option Addr) (c0 : Nat) (l0 : List S34) (r : List ByteArray) (w : World) (hr0 : Kd.C k34 w A0 l0.length l0) (hc0 : l0.length ≤ c0) (h : pglog_Names.f l0 = some r) :
    Calls Try.prog 18 #[.slice A0 l0.length c0] w fun e w' => ∃ v0_ : Value, e = .returned (v0_) ∧ Kd.R Kd.string 9 w' w.heap.size (fun _ => True) v0_ r ∧ Below w.heap.size w w' := by
  unfold pglog_Names.f at h
  split at h
  case isFalse => cases h
  rename_i hln
  obtain rfl := Option.some.inj h
  clear h
  have HR := Aside0.mk hr0
  have HC := Aside0.mk hc0
  clear hr0 hc0
  have hu := Try.underlying34
  go_enter Try.func18, Try.ntmps18
  go_wp2
  go_loopw [3, 8] (fun v3 v8 w' => ∃ (i : Nat) (Av : Option Addr) (cv : Nat), v8 = .int .i64 i ∧ v3 = .slice Av i cv ∧ Aside0 (i ≤ l0.length) ∧ Aside0 (Kd.R Kd.string 9 w' w.heap.size (fun _ => True) (.slice Av i cv) ((l0.take i).map nmE)) ∧ Aside0 (Below w.heap.size w w')) (fun _ v _ => l0.length - (intOf v).toNat)
  case atStart => exact ⟨0, none, 0, rfl, rfl, ⟨by omega⟩, ⟨Kd.R_nil _ _ _ _ _⟩, ⟨Below.refl _ _⟩⟩
  case round =>
    obtain ⟨i, Av, cv, rfl, rfl, HI, HV, HB⟩ := hrel
    by_cases hlt : i < l0.length
    · obtain ⟨ad, e1, hx0, hx1, hx2, hx3, hx4, hx5, hx6, hx7, hx8, hx9, hx10, hx11, hx12, hx13⟩ := at_T34 (Kd.C_below HR.out HB.out) (i : Int) (by omega) (by omega)
      cases e1
      simp only [Int.toNat_natCast] at hx0 hx1 hx2 hx3 hx4 hx5 hx6 hx7 hx8 hx9 hx10 hx11 hx12 hx13
      have HT := Aside0.mk (show (l0.take (i + 1)).map nmE = (l0.take i).map nmE ++ [nmE (rd_T34 l0 i)] from by rw [List.take_succ_eq_append_getElem hlt, List.map_append, rd_at_N l0 i hlt]; rfl)
      have HL := Aside0.mk (show ((l0.take i).map nmE).length = i from by rw [List.length_map, List.length_take]; omega)
      generalize rd_T34 l0 (i : Int) = x at *
      have HB2 := Aside0.mk (below_alloc HB.out (.cells #[.int .i64 x.f0.f0, .int .i64 x.f0.f1, .int .i64 x.f1.f0, .int .i64 x.f1.f1, .int .i64 x.f1.f2, .int .i64 x.f1.f3.f0, .string x.f1.f3.f1, .int .i64 x.f1.f3.f2, .int .i64 x.f1.f3.f3, .string x.f1.f3.f4, .int .i64 x.f2.f0, .int .i64 x.f2.f1, .int .i64 x.f2.f2, .string x.f2.f3] 34))
      have HV2 := Aside0.mk (Kd.R_alloc HV.out (.cells #[.int .i64 x.f0.f0, .int .i64 x.f0.f1, .int .i64 x.f1.f0, .int .i64 x.f1.f1, .int .i64 x.f1.f2, .int .i64 x.f1.f3.f0, .string x.f1.f3.f1, .int .i64 x.f1.f3.f2, .int .i64 x.f1.f3.f3, .string x.f1.f3.f4, .int .i64 x.f2.f0, .int .i64 x.f2.f1, .int .i64 x.f2.f2, .string x.f2.f3] 34))
      have hone := R_append_str (base := w.heap.size) (ok := fun _ => True) x.f1.f3.f1 HB2.out.size
      rw [World.size_alloc] at hone
      have HONE := Aside0.mk hone
      clear hone
      have HV3 := Aside0.mk (Kd.R_alloc HV2.out (.cells #[.string x.f1.f3.f1] 9))
      go_wp2_with (first | (at_builtin; refine Kd.R_append_rows Kd.string (w0 := w) w.heap.size rfl (.tmp 12) (.tmp 17) 44 9 (.string ⟨#[]⟩) 16 rfl Try.underlying44 infoStr rfl (by decide) (by omega) _ ((l0.take i).map nmE) [x.f1.f3.f1] _ _ _ (fun _ => True) (fun _ => False) rfl rfl HV3.out HONE.out (fun _ _ h => h) (fun _ h => h.elim) (fun _ _ => trivial) (below_alloc HB2.out _) (below_alloc HB2.out _).size (by have := HL.out; omega) ?_; intro v6 w6 ho hb hg hat; obtain ⟨Av6, cv6, hv6⟩ := Kd.R_slice ho; rw [show ((l0.take i).map nmE ++ [x.f1.f3.f1]).length = i + 1 from by rw [List.length_append, HL.out]; rfl] at hv6; subst hv6; have HO6 := Aside0.mk ho; have HB6 := Aside0.mk hb; clear ho hb hg hat))
      go_roundw
      case rel => exact ⟨i + 1, Av6, cv6, by go_num, rfl, ⟨by omega⟩, ⟨by rw [HT.out]; exact HO6.out⟩, HB6⟩
      case measure => simp [intOf]; omega
    · have hie : i = l0.length := by have := HI.out; omega
      have HE := Aside0.mk hie
      have HV2 := Aside0.mk (show Kd.R Kd.string 9 wr w.heap.size (fun _ => True) (.slice Av i cv) (l0.map nmE) from by have := HV.out; rw [hie, List.take_length] at this; rw [hie]; exact this)
      clear hie
      go_wp2_with (first
        | (go_at_call 33; refine (sort_S Av cv i (l0.map nmE) 9 w.heap.size (fun _ => True) _ (by rw [List.length_map]; exact HE.out.symm) HV2.out (by have := HE.out; omega)).mono ?_; rintro e w1 ⟨rfl, hR1, row, hg1, hrow⟩; have HR1 := Aside0.mk hR1; have HB1 := Aside0.mk (pw_below_grown HB.out _ HB.out.size hg1 (fun k hk => ((Kd.R_bound HV2.out).1 k (hrow k hk)).2.1)); clear hR1 hg1 hrow)
        | (go_at_call 34; refine (compact_S Av cv i ((tl (l0.map nmE)).mergeSort fun x y => decide (x ≤ y)) 9 w.heap.size (fun _ => True) _ (by simp [tl]; exact HE.out.symm) HR1.out (by have := HE.out; omega)).mono ?_; rintro e w2 ⟨rfl, hR2, row2, hg2, hrow2⟩; have HR2 := Aside0.mk hR2; have HB2 := Aside0.mk (pw_below_grown HB1.out _ HB1.out.size hg2 (fun k hk => ((Kd.R_bound HR1.out).1 k (hrow2 k hk)).2.1)); clear hR2 hg2 hrow2))
      go_ret
      exact ⟨_, rfl, HR2.out, HB2.out⟩
end Go.Proofs.Ytbdciklcckjknaa.P
