-- PRINTED by print.py (a twelfth state) out of the translation. Not trusted: Lean checks it.
import Derived.Test.YtgnaippmncnlaaaP0
import Derived.Test.YtgnaippmncnlaaaP3
import Derived.Test.YtgnaippmncnlaaaP4
import Derived.Test.YtgnaippmncnlaaaP5
import Derived.Test.YtgnaippmncnlaaaH3b
import Derived.Test.YtgnaippmncnlaaaH5
import Derived.Test.YtgnaippmncnlaaaH7
namespace Go.Proofs.Ytgnaippmncnlaaa.P
open Go.RowKit Go.Proofs.YtgnaippmncnlaaaW.PrintWords Go.Proofs.YtgnaippmncnlaaaW.PrintLast Go.Proofs.YtgnaippmncnlaaaW.PrintMore
attribute [local go_sem] max2_int min2_int max_two min_two max_three min_three max_four min_four   -- for this text's walks alone
set_option linter.unusedVariables false
set_option linter.unusedSimpArgs false

/-! ### reeflaw09_ExtentMoves: function 4 -/
mutual
def reeflaw09_ExtentMoves.l0 : Nat → Int → List (S47) → List (List (S47)) → List Int → Int → Int → Option (Bool)
  | 0, _, _, _, _, _, _ => none
  | k + 1, x0, x5, x6, x31, x32, x33 => if x33 < x32 then (if 0 ≤ x33 then (if x33 < (x31.length : Int) then (if (rd x31 x33) ≥ 0 then ((extent_Take.f x5 (Int.tmod (rd x31 x33) 40)).bind fun bt273 => (if bt273.2.2 = 0 then (if x6.length < 5864062014805 then ((extent_Fit.f k x0 bt273.2.1).bind fun t283 => (if t283 = true then (reeflaw09_ExtentMoves.l0 k x0 bt273.2.1 (x6 ++ [bt273.1]) x31 x32 (wrap64 (x33 + 1))) else (some false))) else (none)) else ((extent_Fit.f k x0 x5).bind fun t284 => (if t284 = true then (reeflaw09_ExtentMoves.l0 k x0 x5 x6 x31 x32 (wrap64 (x33 + 1))) else (some false))))) else (if (x6.length : Int) > 0 then (if (IntKind.u64.wrap ((x6.length : Int))) = 0 then (none) else (if 0 ≤ (wrap64 (Int.tmod (IntKind.u64.wrap (rd x31 x33)) (IntKind.u64.wrap ((x6.length : Int))))) then (if (wrap64 (Int.tmod (IntKind.u64.wrap (rd x31 x33)) (IntKind.u64.wrap ((x6.length : Int))))) < (x6.length : Int) then ((extent_Give.f x0 x5 (rd_L3 x6 (wrap64 (Int.tmod (IntKind.u64.wrap (rd x31 x33)) (IntKind.u64.wrap ((x6.length : Int))))))).bind fun bt286 => (if bt286.2 = 0 then ((some (([] : List (List (S47))) : List (List (S47)))).bind fun y290 => (if (wrap64 (Int.tmod (IntKind.u64.wrap (rd x31 x33)) (IntKind.u64.wrap ((x6.length : Int))))) ≤ (x6.length : Int) then ((some (x6.take ((wrap64 (Int.tmod (IntKind.u64.wrap (rd x31 x33)) (IntKind.u64.wrap ((x6.length : Int))))) : Int).toNat : List (List (S47)))).bind fun y293 => (if y290.length + y293.length < 5864062014805 then ((some (y290 ++ y293 : List (List (S47)))).bind fun y298 => (if 0 ≤ (wrap64 ((wrap64 (Int.tmod (IntKind.u64.wrap (rd x31 x33)) (IntKind.u64.wrap ((x6.length : Int))))) + 1)) then (if (wrap64 ((wrap64 (Int.tmod (IntKind.u64.wrap (rd x31 x33)) (IntKind.u64.wrap ((x6.length : Int))))) + 1)) ≤ (x6.length : Int) then ((some (x6.drop ((wrap64 ((wrap64 (Int.tmod (IntKind.u64.wrap (rd x31 x33)) (IntKind.u64.wrap ((x6.length : Int))))) + 1)) : Int).toNat : List (List (S47)))).bind fun y301 => (if y298.length + y301.length < 5864062014805 then ((extent_Fit.f k x0 bt286.1).bind fun t309 => (if t309 = true then (reeflaw09_ExtentMoves.l0 k x0 bt286.1 (y298 ++ y301) x31 x32 (wrap64 (x33 + 1))) else (some false))) else (none))) else (none)) else (none))) else (none))) else (none))) else (some false))) else (none)) else (none))) else ((extent_Fit.f k x0 x5).bind fun t310 => (if t310 = true then (reeflaw09_ExtentMoves.l0 k x0 x5 x6 x31 x32 (wrap64 (x33 + 1))) else (some false))))) else (none)) else (none)) else (if 0 ≤ x0 then (if (x0 : Int).toNat ≤ 35184372088832 then ((extent_Sectors.f x5).bind fun t314 => (reeflaw09_ExtentMoves.l1 k x6 (List.replicate (x0 : Int).toNat 0) t314 (t314.length : Int) 0)) else (none)) else (none))
def reeflaw09_ExtentMoves.l1 : Nat → List (List (S47)) → List Int → List Int → Int → Int → Option (Bool)
  | 0, _, _, _, _, _ => none
  | k + 1, x6, x15, x95, x96, x97 => if x97 < x96 then (if 0 ≤ x97 then (if x97 < (x95.length : Int) then (if 0 ≤ (rd x95 x97) then (if (rd x95 x97) < (x15.length : Int) then (reeflaw09_ExtentMoves.l1 k x6 (x15.set ((rd x95 x97) : Int).toNat (wrap64 ((rd x15 (rd x95 x97)) + 1))) x95 x96 (wrap64 (x97 + 1))) else (none)) else (none)) else (none)) else (none)) else (reeflaw09_ExtentMoves.l2 k x15 x6 (x6.length : Int) 0)
def reeflaw09_ExtentMoves.l2 : Nat → List Int → List (List (S47)) → Int → Int → Option (Bool)
  | 0, _, _, _, _ => none
  | k + 1, x15, x108, x109, x110 => if x110 < x109 then (if 0 ≤ x110 then (if x110 < (x108.length : Int) then ((extent_Sectors.f (rd_L3 x108 x110)).bind fun t321 => (reeflaw09_ExtentMoves.l3 k x15 x108 x109 x110 t321 (t321.length : Int) 0)) else (none)) else (none)) else (reeflaw09_ExtentMoves.l4 k x15 (x15.length : Int) 0)
def reeflaw09_ExtentMoves.l3 : Nat → List Int → List (List (S47)) → Int → Int → List Int → Int → Int → Option (Bool)
  | 0, _, _, _, _, _, _, _ => none
  | k + 1, x15, x108, x109, x110, x115, x116, x117 => if x117 < x116 then (if 0 ≤ x117 then (if x117 < (x115.length : Int) then (if 0 ≤ (rd x115 x117) then (if (rd x115 x117) < (x15.length : Int) then (reeflaw09_ExtentMoves.l3 k (x15.set ((rd x115 x117) : Int).toNat (wrap64 ((rd x15 (rd x115 x117)) + 1))) x108 x109 x110 x115 x116 (wrap64 (x117 + 1))) else (none)) else (none)) else (none)) else (none)) else (reeflaw09_ExtentMoves.l2 k x15 x108 x109 (wrap64 (x110 + 1)))
def reeflaw09_ExtentMoves.l4 : Nat → List Int → Int → Int → Option (Bool)
  | 0, _, _, _ => none
  | k + 1, x129, x130, x131 => if x131 < x130 then (if 0 ≤ x131 then (if x131 < (x129.length : Int) then (if (rd x129 x131) = 1 then (reeflaw09_ExtentMoves.l4 k x129 x130 (wrap64 (x131 + 1))) else (some false)) else (none)) else (none)) else ((reeflaw09_awake.f).bind fun t328 => (some t328))
end
def reeflaw09_ExtentMoves.f (k : Nat) (a0 : Int) (l1 : List Int) : Option (Bool) := (extent_All.f (wrap64 (1 + (wrap64 (Int.tmod (IntKind.u64.wrap (a0)) 200))))).bind fun t269 => (reeflaw09_ExtentMoves.l0 k (wrap64 (1 + (wrap64 (Int.tmod (IntKind.u64.wrap (a0)) 200)))) t269 ([] : List (List (S47))) l1 (l1.length : Int) 0)
theorem reeflaw09_ExtentMoves.mono_l : ∀ k, (∀ y0 y1 y2 y3 y4 y5, LeO (reeflaw09_ExtentMoves.l0 k y0 y1 y2 y3 y4 y5) (reeflaw09_ExtentMoves.l0 (k + 1) y0 y1 y2 y3 y4 y5)) ∧ (∀ y0 y1 y2 y3 y4, LeO (reeflaw09_ExtentMoves.l1 k y0 y1 y2 y3 y4) (reeflaw09_ExtentMoves.l1 (k + 1) y0 y1 y2 y3 y4)) ∧ (∀ y0 y1 y2 y3, LeO (reeflaw09_ExtentMoves.l2 k y0 y1 y2 y3) (reeflaw09_ExtentMoves.l2 (k + 1) y0 y1 y2 y3)) ∧ (∀ y0 y1 y2 y3 y4 y5 y6, LeO (reeflaw09_ExtentMoves.l3 k y0 y1 y2 y3 y4 y5 y6) (reeflaw09_ExtentMoves.l3 (k + 1) y0 y1 y2 y3 y4 y5 y6)) ∧ (∀ y0 y1 y2, LeO (reeflaw09_ExtentMoves.l4 k y0 y1 y2) (reeflaw09_ExtentMoves.l4 (k + 1) y0 y1 y2))
  | 0 => ⟨fun _ _ _ _ _ _ r h => by simp [reeflaw09_ExtentMoves.l0] at h, fun _ _ _ _ _ r h => by simp [reeflaw09_ExtentMoves.l1] at h, fun _ _ _ _ r h => by simp [reeflaw09_ExtentMoves.l2] at h, fun _ _ _ _ _ _ _ r h => by simp [reeflaw09_ExtentMoves.l3] at h, fun _ _ _ r h => by simp [reeflaw09_ExtentMoves.l4] at h⟩
  | k + 1 => by
    obtain ⟨ih0, ih1, ih2, ih3, ih4⟩ := reeflaw09_ExtentMoves.mono_l k
    refine ⟨?_, ?_, ?_, ?_, ?_⟩
    · intro y0 y1 y2 y3 y4 y5
      unfold reeflaw09_ExtentMoves.l0
      repeat' first
      | (with_reducible exact ih0 _ _ _ _ _ _)
      | (with_reducible exact ih1 _ _ _ _ _)
      | (with_reducible exact ih2 _ _ _ _)
      | (with_reducible exact ih3 _ _ _ _ _ _ _)
      | (with_reducible exact ih4 _ _ _)
      | (with_reducible exact extent_Fit.mono _ _ _)
      | (with_reducible exact LeO.refl _)
      | (with_reducible exact LeO.none _)
      | (with_reducible refine LeO.ite ?_ ?_)
      | (with_reducible refine LeO.bind ?_ (fun _ => ?_))
      | exact ih0 _ _ _ _ _ _
      | exact ih1 _ _ _ _ _
      | exact ih2 _ _ _ _
      | exact ih3 _ _ _ _ _ _ _
      | exact ih4 _ _ _
      | exact extent_Fit.mono _ _ _
      | exact LeO.none _
      | refine LeO.ite ?_ ?_
      | refine LeO.bind ?_ (fun _ => ?_)
    · intro y0 y1 y2 y3 y4
      unfold reeflaw09_ExtentMoves.l1
      repeat' first
      | (with_reducible exact ih0 _ _ _ _ _ _)
      | (with_reducible exact ih1 _ _ _ _ _)
      | (with_reducible exact ih2 _ _ _ _)
      | (with_reducible exact ih3 _ _ _ _ _ _ _)
      | (with_reducible exact ih4 _ _ _)
      | (with_reducible exact extent_Fit.mono _ _ _)
      | (with_reducible exact LeO.refl _)
      | (with_reducible exact LeO.none _)
      | (with_reducible refine LeO.ite ?_ ?_)
      | (with_reducible refine LeO.bind ?_ (fun _ => ?_))
      | exact ih0 _ _ _ _ _ _
      | exact ih1 _ _ _ _ _
      | exact ih2 _ _ _ _
      | exact ih3 _ _ _ _ _ _ _
      | exact ih4 _ _ _
      | exact extent_Fit.mono _ _ _
      | exact LeO.none _
      | refine LeO.ite ?_ ?_
      | refine LeO.bind ?_ (fun _ => ?_)
    · intro y0 y1 y2 y3
      unfold reeflaw09_ExtentMoves.l2
      repeat' first
      | (with_reducible exact ih0 _ _ _ _ _ _)
      | (with_reducible exact ih1 _ _ _ _ _)
      | (with_reducible exact ih2 _ _ _ _)
      | (with_reducible exact ih3 _ _ _ _ _ _ _)
      | (with_reducible exact ih4 _ _ _)
      | (with_reducible exact extent_Fit.mono _ _ _)
      | (with_reducible exact LeO.refl _)
      | (with_reducible exact LeO.none _)
      | (with_reducible refine LeO.ite ?_ ?_)
      | (with_reducible refine LeO.bind ?_ (fun _ => ?_))
      | exact ih0 _ _ _ _ _ _
      | exact ih1 _ _ _ _ _
      | exact ih2 _ _ _ _
      | exact ih3 _ _ _ _ _ _ _
      | exact ih4 _ _ _
      | exact extent_Fit.mono _ _ _
      | exact LeO.none _
      | refine LeO.ite ?_ ?_
      | refine LeO.bind ?_ (fun _ => ?_)
    · intro y0 y1 y2 y3 y4 y5 y6
      unfold reeflaw09_ExtentMoves.l3
      repeat' first
      | (with_reducible exact ih0 _ _ _ _ _ _)
      | (with_reducible exact ih1 _ _ _ _ _)
      | (with_reducible exact ih2 _ _ _ _)
      | (with_reducible exact ih3 _ _ _ _ _ _ _)
      | (with_reducible exact ih4 _ _ _)
      | (with_reducible exact extent_Fit.mono _ _ _)
      | (with_reducible exact LeO.refl _)
      | (with_reducible exact LeO.none _)
      | (with_reducible refine LeO.ite ?_ ?_)
      | (with_reducible refine LeO.bind ?_ (fun _ => ?_))
      | exact ih0 _ _ _ _ _ _
      | exact ih1 _ _ _ _ _
      | exact ih2 _ _ _ _
      | exact ih3 _ _ _ _ _ _ _
      | exact ih4 _ _ _
      | exact extent_Fit.mono _ _ _
      | exact LeO.none _
      | refine LeO.ite ?_ ?_
      | refine LeO.bind ?_ (fun _ => ?_)
    · intro y0 y1 y2
      unfold reeflaw09_ExtentMoves.l4
      repeat' first
      | (with_reducible exact ih0 _ _ _ _ _ _)
      | (with_reducible exact ih1 _ _ _ _ _)
      | (with_reducible exact ih2 _ _ _ _)
      | (with_reducible exact ih3 _ _ _ _ _ _ _)
      | (with_reducible exact ih4 _ _ _)
      | (with_reducible exact extent_Fit.mono _ _ _)
      | (with_reducible exact LeO.refl _)
      | (with_reducible exact LeO.none _)
      | (with_reducible refine LeO.ite ?_ ?_)
      | (with_reducible refine LeO.bind ?_ (fun _ => ?_))
      | exact ih0 _ _ _ _ _ _
      | exact ih1 _ _ _ _ _
      | exact ih2 _ _ _ _
      | exact ih3 _ _ _ _ _ _ _
      | exact ih4 _ _ _
      | exact extent_Fit.mono _ _ _
      | exact LeO.none _
      | refine LeO.ite ?_ ?_
      | refine LeO.bind ?_ (fun _ => ?_)
theorem reeflaw09_ExtentMoves.mono : ∀ a0 a1 k, LeO (reeflaw09_ExtentMoves.f k a0 a1) (reeflaw09_ExtentMoves.f (k + 1) a0 a1) := by
  intro a0 a1 k
  obtain ⟨ih0, ih1, ih2, ih3, ih4⟩ := reeflaw09_ExtentMoves.mono_l k
  unfold reeflaw09_ExtentMoves.f
  repeat' first
      | (with_reducible exact ih0 _ _ _ _ _ _)
      | (with_reducible exact ih1 _ _ _ _ _)
      | (with_reducible exact ih2 _ _ _ _)
      | (with_reducible exact ih3 _ _ _ _ _ _ _)
      | (with_reducible exact ih4 _ _ _)
      | (with_reducible exact extent_Fit.mono _ _ _)
      | (with_reducible exact LeO.refl _)
      | (with_reducible exact LeO.none _)
      | (with_reducible refine LeO.ite ?_ ?_)
      | (with_reducible refine LeO.bind ?_ (fun _ => ?_))
      | exact ih0 _ _ _ _ _ _
      | exact ih1 _ _ _ _ _
      | exact ih2 _ _ _ _
      | exact ih3 _ _ _ _ _ _ _
      | exact ih4 _ _ _
      | exact extent_Fit.mono _ _ _
      | exact LeO.none _
      | refine LeO.ite ?_ ?_
      | refine LeO.bind ?_ (fun _ => ?_)
def reeflaw09_ExtentMoves.T18 : Bool × List (List Nat × List Nat) := (true, [([], []), ([], []), ([], []), ([1, 2], [1, 2]), ([0, 3], [0, 3]), ([], []), ([], []), ([6], [6]), ([5, 7], [5, 7]), ([4, 8, 4], [4, 8]), ([9, 9, 0, 1, 2, 3, 4, 5, 6, 7, 8, 9], [1, 5, 9])])
def reeflaw09_ExtentMoves.B18 : List Nat := [0, 0, 0, 6, 15, 0, 0, 64, 224, 511, 1023]
theorem reeflaw09_ExtentMoves.tab18 : rtab .any (opsOf Try.f4 18) = reeflaw09_ExtentMoves.T18 := by kernel_rfl
theorem reeflaw09_ExtentMoves.bits18 : waitsOk reeflaw09_ExtentMoves.T18.2 reeflaw09_ExtentMoves.B18 = true := by kernel_rfl
set_option maxHeartbeats 8000000 in
set_option maxRecDepth 100000 in
theorem reeflaw09_ExtentMoves.calls (k : Nat) (a0 : Int) (A1 : Option Addr) (c1 : Nat) (l1 : List Int) (r : Bool) (w : World) (hr1 : Kd.C (Kd.int .i64) w A1 l1.length l1) (hc1 : l1.length ≤ c1) (h : reeflaw09_ExtentMoves.f k a0 l1 = some r) :
    Calls Try.prog 4 #[.int .i64 a0, .slice A1 l1.length c1] w fun e w' => e = .returned (.bool r) ∧ Below w.heap.size w w' := by
  have HR1 := Aside0.mk hr1
  have HC1 := Aside0.mk hc1
  clear hr1 hc1
  have HB := Aside0.mk (Below.refl w.heap.size w)
  have H : ((extent_All.f (wrap64 (1 + (wrap64 (Int.tmod (IntKind.u64.wrap (a0)) 200))))).bind fun t269 => (reeflaw09_ExtentMoves.l0 k (wrap64 (1 + (wrap64 (Int.tmod (IntKind.u64.wrap (a0)) 200)))) t269 ([] : List (List (S47))) l1 (l1.length : Int) 0)) = some r := h
  clear h
  replace H := Option.bind_eq_some_iff.mp H
  obtain ⟨t269, A30, H⟩ := H
  replace H : (reeflaw09_ExtentMoves.l0 k (wrap64 (1 + (wrap64 (Int.tmod (IntKind.u64.wrap (a0)) 200)))) t269 ([] : List (List (S47))) l1 (l1.length : Int) 0) = some r := H
  have A3 := Aside0.mk A30
  clear A30
  have H' := Aside0.mk H
  clear H
  go_enter Try.func4, Try.ntmps4
  go_wp2_with (first | ((with_reducible refine gate_callee (f := 9) rfl ?_); refine goesL_ (some 30) rfl rfl Try.func9 (by kernel_rfl) rfl #[.int .i64 (wrap64 (1 + (wrap64 (Int.tmod (IntKind.u64.wrap (a0)) 200))))] rfl (by (try simp only [List.map_toArray, List.map_cons, List.map_nil]); first | done | rfl | (simp only [List.length_drop, List.length_take]; rfl)) ?_; (with_reducible refine (extent_All.calls (wrap64 (1 + (wrap64 (Int.tmod (IntKind.u64.wrap (a0)) 200)))) t269 _ A3.out).mono ?_); rintro e w4 ⟨v270, rfl, ho0, hb⟩; refine ⟨_, rfl, ?_⟩; have n0_ := Aside0.mk (Kd.R_lower ho0 (below_size (by repeat (first | (with_reducible first | exact HB.out | apply below_alloc | apply pw_below_drewN | apply below_drew1) | exact HB.out)))); have n1_ := Aside0.mk (below_step (by repeat (first | (with_reducible first | exact HB.out | apply below_alloc | apply pw_below_drewN | apply below_drew1) | exact HB.out)) hb); clear HB; have HO271 := n0_; have HB := n1_; clear n0_ n1_; (try clear hb); (try clear hb2); (try clear hk); (try clear hi); (try clear ho0)))
  go_loopg [5, 6, 33] k (fun kq v5 v6 v33 w' => ∃ (x5_1 : List (S47)) (x6_1 : List (List (S47))) (x33_1 : Int), v33 = .int .i64 x33_1 ∧ Aside0 (reeflaw09_ExtentMoves.l0 kq (wrap64 (1 + (wrap64 (Int.tmod (IntKind.u64.wrap (a0)) 200)))) x5_1 x6_1 l1 (l1.length : Int) x33_1 = some r) ∧ Aside0 (kq ≤ k) ∧ Aside0 (Kd.R k47 47 w' w.heap.size (fun _ => True) v5 x5_1) ∧ Aside0 (Kd.N (Kd.slice 47 k47) 22 w' w.heap.size (fun k_ => some k_ ≠ (v5 : Value).ownBlock) v6 x6_1) ∧ Aside0 (Below w.heap.size w w'))
  case atStart => exact ⟨(t269), (([] : List (List (S47)))), (0), (by first | rfl | (simp; done) | (simp [*]; done)), H', ⟨Nat.le_refl _⟩, ⟨by (with_reducible repeat (first | apply Kd.R_alloc | apply Kd.R_drewN | apply Kd.R_drew)); exact HO271.out⟩, ⟨by first | exact Kd.S_nil _ _ _ _ _ | exact Kd.N_nil _ _ _ _ _ | exact Kd.V_nil _ _ _ _ _ | exact Kd.Q_nil _ _ _ _ _ | exact Kd.R_nil _ _ _ _ _⟩, ⟨by repeat (first | (with_reducible first | exact HB.out | apply below_alloc | apply pw_below_drewN | apply below_drew1) | exact HB.out)⟩⟩
  case round =>
    clear H'
    try clear c1
    try clear p2
    try clear c4
    obtain ⟨x5_1, x6_1, x33_1, rfl, HA, HK1, HO_5, HO_6, HB⟩ := hrel
    cases gk with
    | zero => exact absurd HA.out (by simp [reeflaw09_ExtentMoves.l0])
    | succ k1 =>
      have H := HA.out
      clear HA
      simp only [reeflaw09_ExtentMoves.l0] at H
      by_cases c5 : x33_1 < (l1.length : Int)
      · rw [if_pos c5] at H
        have c5b0 : decide (x33_1 < (l1.length : Int)) = true := decide_eq_true c5
        clear c5
        by_cases c6 : 0 ≤ x33_1
        · rw [if_pos c6] at H
          have c6b0 : decide (0 ≤ x33_1) = true := decide_eq_true c6
          clear c6
          by_cases c7 : x33_1 < (l1.length : Int)
          · rw [if_pos c7] at H
            have c7b0 : decide (x33_1 < (l1.length : Int)) = true := decide_eq_true c7
            clear c7
            by_cases c8 : (rd l1 x33_1) ≥ 0
            · rw [if_pos c8] at H
              have c8b0 : decide (0 ≤ (rd l1 x33_1)) = true := decide_eq_true c8
              clear c8
              replace H := Option.bind_eq_some_iff.mp H
              obtain ⟨⟨t273, t274, t275⟩, A90, H⟩ := H
              replace H : (if t275 = 0 then (if x6_1.length < 5864062014805 then ((extent_Fit.f k1 (wrap64 (1 + (wrap64 (Int.tmod (IntKind.u64.wrap (a0)) 200)))) t274).bind fun t283 => (if t283 = true then (reeflaw09_ExtentMoves.l0 k1 (wrap64 (1 + (wrap64 (Int.tmod (IntKind.u64.wrap (a0)) 200)))) t274 (x6_1 ++ [t273]) l1 (l1.length : Int) (wrap64 (x33_1 + 1))) else (some false))) else (none)) else ((extent_Fit.f k1 (wrap64 (1 + (wrap64 (Int.tmod (IntKind.u64.wrap (a0)) 200)))) x5_1).bind fun t284 => (if t284 = true then (reeflaw09_ExtentMoves.l0 k1 (wrap64 (1 + (wrap64 (Int.tmod (IntKind.u64.wrap (a0)) 200)))) x5_1 x6_1 l1 (l1.length : Int) (wrap64 (x33_1 + 1))) else (some false)))) = some r := H
              have A9 := Aside0.mk A90
              clear A90
              by_cases c10 : t275 = 0
              · rw [if_pos c10] at H
                have c10b0 : (t275 == 0) = true := beq_iff_eq.mpr c10
                have c10b1 : (t275 != 0) = false := bne_eq_false_iff_eq.mpr c10
                clear c10
                by_cases c11 : x6_1.length < 5864062014805
                · rw [if_pos c11] at H
                  have LMc11 := Aside0.mk c11
                  clear c11
                  obtain ⟨y280, hy280⟩ : ∃ y_ : List (List (S47)), y_ = (x6_1 ++ [t273]) := ⟨_, rfl⟩
                  replace H : ((extent_Fit.f k1 (wrap64 (1 + (wrap64 (Int.tmod (IntKind.u64.wrap (a0)) 200)))) t274).bind fun t283 => (if t283 = true then (reeflaw09_ExtentMoves.l0 k1 (wrap64 (1 + (wrap64 (Int.tmod (IntKind.u64.wrap (a0)) 200)))) t274 y280 l1 (l1.length : Int) (wrap64 (x33_1 + 1))) else (some false))) = some r := by first | (rw [hy280]; with_reducible exact H) | (have H2_ := (Option.bind_some _ _).symm.trans H; rw [hy280]; with_reducible exact H2_) | (have H2_ := (Option.bind_some _ _).symm.trans H; with_reducible exact H2_) | with_reducible exact H | (rw [hy280]; exact H) | exact H
                  have Ny280 := Aside0.mk hy280
                  clear hy280
                  replace H := Option.bind_eq_some_iff.mp H
                  obtain ⟨t283, A120, H⟩ := H
                  replace H : (if t283 = true then (reeflaw09_ExtentMoves.l0 k1 (wrap64 (1 + (wrap64 (Int.tmod (IntKind.u64.wrap (a0)) 200)))) t274 y280 l1 (l1.length : Int) (wrap64 (x33_1 + 1))) else (some false)) = some r := H
                  have A12 := Aside0.mk A120
                  clear A120
                  by_cases c13 : t283 = true
                  · subst c13
                    have H1 : (reeflaw09_ExtentMoves.l0 k1 (wrap64 (1 + (wrap64 (Int.tmod (IntKind.u64.wrap (a0)) 200)))) t274 y280 l1 (l1.length : Int) (wrap64 (x33_1 + 1))) = some r := by rw [if_pos rfl] at H; exact H
                    clear H
                    have H := H1
                    clear H1
                    have H' := Aside0.mk H
                    clear H
                    have p272 : 0 ≤ (x33_1 : Int) := of_decide_eq_true (by first | (with_reducible assumption) | assumption)
                    have q272 : x33_1 < (l1.length : Int) := of_decide_eq_true (by first | (with_reducible assumption) | assumption)
                    obtain ⟨ad272, e272, hx272_0⟩ := Kd.at_int HR1.out x33_1 p272 q272
                    cases e272
                    replace hx272_0 := (HB.out.cell (World.block_lt_of_cell? w _ hx272_0)).trans hx272_0
                    replace p272 := eq_true p272
                    replace q272 := eq_true q272
                    obtain ⟨Ao14, co14, eo14⟩ := Kd.R_slice HO_5.out
                    subst eo14
                    go_wp2_with (first | ((with_reducible refine gate_callee (f := 13) rfl ?_); refine goesL_ (some 43) rfl rfl Try.func13 (by kernel_rfl) rfl #[.slice Ao14 x5_1.length co14, .int .i64 (Int.tmod (rd l1 x33_1) 40)] rfl (by (try simp only [List.map_toArray, List.map_cons, List.map_nil]); first | done | rfl | (simp only [List.length_drop, List.length_take]; rfl)) ?_; (with_reducible refine (extent_Take.calls _ _ x5_1 (Int.tmod (rd l1 x33_1) 40) t273 t274 t275 _ ?side1 ?side2 A9.out).mono ?_); (case side1 => repeat (first | exact (Kd.R_reads' HO_5.out).2.2 | (with_reducible refine Kd.C_alloc ?_ _) | (with_reducible refine Kd.C_drewN ?_ _) | (with_reducible refine Kd.C_drew ?_))); (case side2 => exact (Kd.R_reads' HO_5.out).2.1); rintro e w15 ⟨v276, v278, rfl, ho0, ho1, hb⟩; refine ⟨_, rfl, ?_⟩; have n0_ := Aside0.mk (Kd.R_mono (Kd.R_told (Kd.R_told (Kd.R_old (by (with_reducible repeat (first | apply Kd.R_alloc | apply Kd.R_drewN | apply Kd.R_drew)); exact HO_5.out) hb) (Kd.R_base ho0)) (Kd.R_base ho1)) (fun _ h_ => h_.1)); have n1_ := Aside0.mk (Kd.N_mono (Kd.N_told (Kd.N_told (Kd.N_old (by (with_reducible repeat (first | apply Kd.N_alloc | apply Kd.N_drewN | apply Kd.N_drew)); exact HO_6.out) hb) (Kd.R_base ho0)) (Kd.R_base ho1)) (fun _ h_ => h_.1)); have n2_ := Aside0.mk (Kd.R_lower (Kd.R_new' ho0 (Kd.R_lt (by (with_reducible repeat (first | apply Kd.R_alloc | apply Kd.R_drewN | apply Kd.R_drew)); exact HO_5.out))) (below_size (by repeat (first | (with_reducible first | exact HB.out | apply below_alloc | apply pw_below_drewN | apply below_drew1) | exact HB.out)))); have n3_ := Aside0.mk (Kd.R_lower (Kd.R_new' ho1 (Kd.R_lt (by (with_reducible repeat (first | apply Kd.R_alloc | apply Kd.R_drewN | apply Kd.R_drew)); exact HO_5.out))) (below_size (by repeat (first | (with_reducible first | exact HB.out | apply below_alloc | apply pw_below_drewN | apply below_drew1) | exact HB.out)))); have n4_ := Aside0.mk (below_step (by repeat (first | (with_reducible first | exact HB.out | apply below_alloc | apply pw_below_drewN | apply below_drew1) | exact HB.out)) hb); clear HO_5; clear HO_6; clear HB; have HO_5 := n0_; have HO_6 := n1_; have HO277 := n2_; have HO279 := n3_; have HB := n4_; clear n0_ n1_ n2_ n3_ n4_; (try clear hb); (try clear hb2); (try clear hk); (try clear hi); (try clear ho0); (try clear ho1); obtain ⟨Ao17, co17, eo17⟩ := Kd.R_slice HO277.out; subst eo17) | ((with_reducible refine gate_builtin (b := .append) (xs := #[.tmp 50, .tmp 52]) rfl ?_); at_builtin; refine Kd.N_append (Kd.slice 47 k47) (w0 := w) w.heap.size rfl (.tmp 50) (.tmp 52) 40 22 (.slice none 0 0) 24 rfl Try.underlying40 info22 rfl (by decide) (by omega) u6 x6_1 t273 [.slice Ao17 t273.length co17] (fun k_ => some k_ ≠ (.slice Ao14 x5_1.length co14 : Value).ownBlock ∧ some k_ ≠ (v278 : Value).ownBlock) (fun k_ => ((fun k_ => some k_ ≠ (.slice Ao14 x5_1.length co14 : Value).ownBlock ∧ some k_ ≠ (v278 : Value).ownBlock)) k_ ∧ some k_ ≠ (u6 : Value).ownBlock) rfl rfl ?aP (fun _ hk => hk) ?aF ?aO ?aB ?aS ?aL ?_; (case aP => exact (Kd.FK_slice_mk (Kd.R_reads' (Kd.R_mono (ok' := (fun k_ => ((fun k_ => some k_ ≠ (.slice Ao14 x5_1.length co14 : Value).ownBlock ∧ some k_ ≠ (v278 : Value).ownBlock)) k_ ∧ some k_ ≠ (u6 : Value).ownBlock)) (Kd.R_apart' (HO277.out) (Kd.N_typed HO_6.out) (by decide)) (fun k_ hk => ⟨⟨hk.1.2, hk.1.1⟩, hk.2⟩))).2.1 (Kd.R_F (Kd.R_mono (ok' := (fun k_ => ((fun k_ => some k_ ≠ (.slice Ao14 x5_1.length co14 : Value).ownBlock ∧ some k_ ≠ (v278 : Value).ownBlock)) k_ ∧ some k_ ≠ (u6 : Value).ownBlock)) (Kd.R_apart' (HO277.out) (Kd.N_typed HO_6.out) (by decide)) (fun k_ hk => ⟨⟨hk.1.2, hk.1.1⟩, hk.2⟩))))); (case aB => exact (by repeat (first | (with_reducible first | exact HB.out | apply below_alloc | apply pw_below_drewN | apply below_drew1) | exact HB.out))); (case aF => exact (fun k_ hk => ⟨Kd.fresh' (Kd.R_lt (by (with_reducible repeat (first | apply Kd.R_alloc | apply Kd.R_drewN | apply Kd.R_drew)); exact HO_5.out)) k_ hk, Kd.fresh' (Kd.R_lt (by (with_reducible repeat (first | apply Kd.R_alloc | apply Kd.R_drewN | apply Kd.R_drew)); exact HO279.out)) k_ hk⟩)); (case aO => exact (by (with_reducible repeat (first | apply Kd.N_alloc | apply Kd.N_drewN | apply Kd.N_drew)); exact Kd.N_mono HO_6.out (fun _ hk => ⟨hk.1.1, hk.2⟩))); (case aS => exact (below_size (by repeat (first | (with_reducible first | exact HB.out | apply below_alloc | apply pw_below_drewN | apply below_drew1) | exact HB.out)))); (case aL => have := LMc11.out; omega); intro v281 w16 ho hb hg hat; rw [← Ny280.out] at ho; have n0_ := Aside0.mk (Kd.R_over' (by (with_reducible repeat (first | apply Kd.R_alloc | apply Kd.R_drewN | apply Kd.R_drew)); exact HO_5.out) (Kd.N_typed (by (with_reducible repeat (first | apply Kd.N_alloc | apply Kd.N_drewN | apply Kd.N_drew)); exact HO_6.out)) (by decide) hg); have n1_ := Aside0.mk (Kd.R_over' (by (with_reducible repeat (first | apply Kd.R_alloc | apply Kd.R_drewN | apply Kd.R_drew)); exact HO279.out) (Kd.N_typed (by (with_reducible repeat (first | apply Kd.N_alloc | apply Kd.N_drewN | apply Kd.N_drew)); exact HO_6.out)) (by decide) hg); have n2_ := Aside0.mk (hb); have n3_ := Aside0.mk (ho); clear HO_5; clear HO279; clear HB; clear HO_6; clear HO277; have HO_5 := n0_; have HO279 := n1_; have HB := n2_; have HO282 := n3_; clear n0_ n1_ n2_ n3_; clear ho hb hg hat; obtain ⟨Ao18, co18, eo18⟩ := Kd.R_slice HO279.out; subst eo18) | ((with_reducible refine gate_callee (f := 6) rfl ?_); refine goesL_ (some 89) rfl rfl Try.func6 (by kernel_rfl) rfl #[.int .i64 (wrap64 (1 + (wrap64 (Int.tmod (IntKind.u64.wrap (a0)) 200)))), .slice Ao18 t274.length co18] rfl (by (try simp only [List.map_toArray, List.map_cons, List.map_nil]); first | done | rfl | (simp only [List.length_drop, List.length_take]; rfl)) ?_; (with_reducible refine (extent_Fit.calls k1 (wrap64 (1 + (wrap64 (Int.tmod (IntKind.u64.wrap (a0)) 200)))) _ _ t274 true _ ?side1 ?side2 A12.out).mono ?_); (case side1 => repeat (first | exact (Kd.R_reads' HO279.out).2.2 | (with_reducible refine Kd.C_alloc ?_ _) | (with_reducible refine Kd.C_drewN ?_ _) | (with_reducible refine Kd.C_drew ?_))); (case side2 => exact (Kd.R_reads' HO279.out).2.1); rintro e w19 ⟨rfl, hb⟩; refine ⟨_, rfl, ?_⟩; have n0_ := Aside0.mk (Kd.R_below (by (with_reducible repeat (first | apply Kd.R_alloc | apply Kd.R_drewN | apply Kd.R_drew)); exact HO_5.out) hb); have n1_ := Aside0.mk (Kd.R_below (by (with_reducible repeat (first | apply Kd.R_alloc | apply Kd.R_drewN | apply Kd.R_drew)); exact HO279.out) hb); have n2_ := Aside0.mk (Kd.N_below (by (with_reducible repeat (first | apply Kd.N_alloc | apply Kd.N_drewN | apply Kd.N_drew)); exact HO282.out) hb); have n3_ := Aside0.mk (below_step (by repeat (first | (with_reducible first | exact HB.out | apply below_alloc | apply pw_below_drewN | apply below_drew1) | exact HB.out)) hb); clear HO_5; clear HO279; clear HO282; clear HB; have HO_5 := n0_; have HO279 := n1_; have HO282 := n2_; have HB := n3_; clear n0_ n1_ n2_ n3_; (try clear hb); (try clear hb2); (try clear hk); (try clear hi)))
                    go_roundg k1
                    case measure => have := HK1.out; omega
                    case rel => exact ⟨(t274), (y280), (wrap64 (x33_1 + 1)), (by first | rfl | (simp; done) | (simp [*]; done)), H', ⟨by have := HK1.out; omega⟩, ⟨by (with_reducible repeat (first | apply Kd.R_alloc | apply Kd.R_drewN | apply Kd.R_drew)); exact Kd.R_mono HO279.out (fun _ hk => trivial)⟩, ⟨by (with_reducible repeat (first | apply Kd.N_alloc | apply Kd.N_drewN | apply Kd.N_drew)); exact Kd.N_mono HO282.out (fun _ hk => hk.2)⟩, ⟨by repeat (first | (with_reducible first | exact HB.out | apply below_alloc | apply pw_below_drewN | apply below_drew1) | exact HB.out)⟩⟩
                  · replace c13 := Bool.eq_false_iff.mpr c13
                    subst c13
                    have H1 : (some false) = some r := by rw [if_neg (show ¬ (false = true) by decide)] at H; exact H
                    clear H
                    have H := H1
                    clear H1
                    obtain rfl := Option.some.inj H
                    have p272 : 0 ≤ (x33_1 : Int) := of_decide_eq_true (by first | (with_reducible assumption) | assumption)
                    have q272 : x33_1 < (l1.length : Int) := of_decide_eq_true (by first | (with_reducible assumption) | assumption)
                    obtain ⟨ad272, e272, hx272_0⟩ := Kd.at_int HR1.out x33_1 p272 q272
                    cases e272
                    replace hx272_0 := (HB.out.cell (World.block_lt_of_cell? w _ hx272_0)).trans hx272_0
                    replace p272 := eq_true p272
                    replace q272 := eq_true q272
                    obtain ⟨Ao20, co20, eo20⟩ := Kd.R_slice HO_5.out
                    subst eo20
                    go_wp2_with (first | ((with_reducible refine gate_callee (f := 13) rfl ?_); refine goesL_ (some 43) rfl rfl Try.func13 (by kernel_rfl) rfl #[.slice Ao20 x5_1.length co20, .int .i64 (Int.tmod (rd l1 x33_1) 40)] rfl (by (try simp only [List.map_toArray, List.map_cons, List.map_nil]); first | done | rfl | (simp only [List.length_drop, List.length_take]; rfl)) ?_; (with_reducible refine (extent_Take.calls _ _ x5_1 (Int.tmod (rd l1 x33_1) 40) t273 t274 t275 _ ?side1 ?side2 A9.out).mono ?_); (case side1 => repeat (first | exact (Kd.R_reads' HO_5.out).2.2 | (with_reducible refine Kd.C_alloc ?_ _) | (with_reducible refine Kd.C_drewN ?_ _) | (with_reducible refine Kd.C_drew ?_))); (case side2 => exact (Kd.R_reads' HO_5.out).2.1); rintro e w21 ⟨v276, v278, rfl, ho0, ho1, hb⟩; refine ⟨_, rfl, ?_⟩; have n0_ := Aside0.mk (Kd.R_mono (Kd.R_told (Kd.R_told (Kd.R_old (by (with_reducible repeat (first | apply Kd.R_alloc | apply Kd.R_drewN | apply Kd.R_drew)); exact HO_5.out) hb) (Kd.R_base ho0)) (Kd.R_base ho1)) (fun _ h_ => h_.1)); have n1_ := Aside0.mk (Kd.N_mono (Kd.N_told (Kd.N_told (Kd.N_old (by (with_reducible repeat (first | apply Kd.N_alloc | apply Kd.N_drewN | apply Kd.N_drew)); exact HO_6.out) hb) (Kd.R_base ho0)) (Kd.R_base ho1)) (fun _ h_ => h_.1)); have n2_ := Aside0.mk (Kd.R_lower (Kd.R_new' ho0 (Kd.R_lt (by (with_reducible repeat (first | apply Kd.R_alloc | apply Kd.R_drewN | apply Kd.R_drew)); exact HO_5.out))) (below_size (by repeat (first | (with_reducible first | exact HB.out | apply below_alloc | apply pw_below_drewN | apply below_drew1) | exact HB.out)))); have n3_ := Aside0.mk (Kd.R_lower (Kd.R_new' ho1 (Kd.R_lt (by (with_reducible repeat (first | apply Kd.R_alloc | apply Kd.R_drewN | apply Kd.R_drew)); exact HO_5.out))) (below_size (by repeat (first | (with_reducible first | exact HB.out | apply below_alloc | apply pw_below_drewN | apply below_drew1) | exact HB.out)))); have n4_ := Aside0.mk (below_step (by repeat (first | (with_reducible first | exact HB.out | apply below_alloc | apply pw_below_drewN | apply below_drew1) | exact HB.out)) hb); clear HO_5; clear HO_6; clear HB; have HO_5 := n0_; have HO_6 := n1_; have HO277 := n2_; have HO279 := n3_; have HB := n4_; clear n0_ n1_ n2_ n3_ n4_; (try clear hb); (try clear hb2); (try clear hk); (try clear hi); (try clear ho0); (try clear ho1); obtain ⟨Ao23, co23, eo23⟩ := Kd.R_slice HO277.out; subst eo23) | ((with_reducible refine gate_builtin (b := .append) (xs := #[.tmp 50, .tmp 52]) rfl ?_); at_builtin; refine Kd.N_append (Kd.slice 47 k47) (w0 := w) w.heap.size rfl (.tmp 50) (.tmp 52) 40 22 (.slice none 0 0) 24 rfl Try.underlying40 info22 rfl (by decide) (by omega) u6 x6_1 t273 [.slice Ao23 t273.length co23] (fun k_ => some k_ ≠ (.slice Ao20 x5_1.length co20 : Value).ownBlock ∧ some k_ ≠ (v278 : Value).ownBlock) (fun k_ => ((fun k_ => some k_ ≠ (.slice Ao20 x5_1.length co20 : Value).ownBlock ∧ some k_ ≠ (v278 : Value).ownBlock)) k_ ∧ some k_ ≠ (u6 : Value).ownBlock) rfl rfl ?aP (fun _ hk => hk) ?aF ?aO ?aB ?aS ?aL ?_; (case aP => exact (Kd.FK_slice_mk (Kd.R_reads' (Kd.R_mono (ok' := (fun k_ => ((fun k_ => some k_ ≠ (.slice Ao20 x5_1.length co20 : Value).ownBlock ∧ some k_ ≠ (v278 : Value).ownBlock)) k_ ∧ some k_ ≠ (u6 : Value).ownBlock)) (Kd.R_apart' (HO277.out) (Kd.N_typed HO_6.out) (by decide)) (fun k_ hk => ⟨⟨hk.1.2, hk.1.1⟩, hk.2⟩))).2.1 (Kd.R_F (Kd.R_mono (ok' := (fun k_ => ((fun k_ => some k_ ≠ (.slice Ao20 x5_1.length co20 : Value).ownBlock ∧ some k_ ≠ (v278 : Value).ownBlock)) k_ ∧ some k_ ≠ (u6 : Value).ownBlock)) (Kd.R_apart' (HO277.out) (Kd.N_typed HO_6.out) (by decide)) (fun k_ hk => ⟨⟨hk.1.2, hk.1.1⟩, hk.2⟩))))); (case aB => exact (by repeat (first | (with_reducible first | exact HB.out | apply below_alloc | apply pw_below_drewN | apply below_drew1) | exact HB.out))); (case aF => exact (fun k_ hk => ⟨Kd.fresh' (Kd.R_lt (by (with_reducible repeat (first | apply Kd.R_alloc | apply Kd.R_drewN | apply Kd.R_drew)); exact HO_5.out)) k_ hk, Kd.fresh' (Kd.R_lt (by (with_reducible repeat (first | apply Kd.R_alloc | apply Kd.R_drewN | apply Kd.R_drew)); exact HO279.out)) k_ hk⟩)); (case aO => exact (by (with_reducible repeat (first | apply Kd.N_alloc | apply Kd.N_drewN | apply Kd.N_drew)); exact Kd.N_mono HO_6.out (fun _ hk => ⟨hk.1.1, hk.2⟩))); (case aS => exact (below_size (by repeat (first | (with_reducible first | exact HB.out | apply below_alloc | apply pw_below_drewN | apply below_drew1) | exact HB.out)))); (case aL => have := LMc11.out; omega); intro v281 w22 ho hb hg hat; rw [← Ny280.out] at ho; have n0_ := Aside0.mk (Kd.R_over' (by (with_reducible repeat (first | apply Kd.R_alloc | apply Kd.R_drewN | apply Kd.R_drew)); exact HO_5.out) (Kd.N_typed (by (with_reducible repeat (first | apply Kd.N_alloc | apply Kd.N_drewN | apply Kd.N_drew)); exact HO_6.out)) (by decide) hg); have n1_ := Aside0.mk (Kd.R_over' (by (with_reducible repeat (first | apply Kd.R_alloc | apply Kd.R_drewN | apply Kd.R_drew)); exact HO279.out) (Kd.N_typed (by (with_reducible repeat (first | apply Kd.N_alloc | apply Kd.N_drewN | apply Kd.N_drew)); exact HO_6.out)) (by decide) hg); have n2_ := Aside0.mk (hb); have n3_ := Aside0.mk (ho); clear HO_5; clear HO279; clear HB; clear HO_6; clear HO277; have HO_5 := n0_; have HO279 := n1_; have HB := n2_; have HO282 := n3_; clear n0_ n1_ n2_ n3_; clear ho hb hg hat; obtain ⟨Ao24, co24, eo24⟩ := Kd.R_slice HO279.out; subst eo24) | ((with_reducible refine gate_callee (f := 6) rfl ?_); refine goesL_ (some 89) rfl rfl Try.func6 (by kernel_rfl) rfl #[.int .i64 (wrap64 (1 + (wrap64 (Int.tmod (IntKind.u64.wrap (a0)) 200)))), .slice Ao24 t274.length co24] rfl (by (try simp only [List.map_toArray, List.map_cons, List.map_nil]); first | done | rfl | (simp only [List.length_drop, List.length_take]; rfl)) ?_; (with_reducible refine (extent_Fit.calls k1 (wrap64 (1 + (wrap64 (Int.tmod (IntKind.u64.wrap (a0)) 200)))) _ _ t274 false _ ?side1 ?side2 A12.out).mono ?_); (case side1 => repeat (first | exact (Kd.R_reads' HO279.out).2.2 | (with_reducible refine Kd.C_alloc ?_ _) | (with_reducible refine Kd.C_drewN ?_ _) | (with_reducible refine Kd.C_drew ?_))); (case side2 => exact (Kd.R_reads' HO279.out).2.1); rintro e w25 ⟨rfl, hb⟩; refine ⟨_, rfl, ?_⟩; have n0_ := Aside0.mk (Kd.R_below (by (with_reducible repeat (first | apply Kd.R_alloc | apply Kd.R_drewN | apply Kd.R_drew)); exact HO_5.out) hb); have n1_ := Aside0.mk (Kd.R_below (by (with_reducible repeat (first | apply Kd.R_alloc | apply Kd.R_drewN | apply Kd.R_drew)); exact HO279.out) hb); have n2_ := Aside0.mk (Kd.N_below (by (with_reducible repeat (first | apply Kd.N_alloc | apply Kd.N_drewN | apply Kd.N_drew)); exact HO282.out) hb); have n3_ := Aside0.mk (below_step (by repeat (first | (with_reducible first | exact HB.out | apply below_alloc | apply pw_below_drewN | apply below_drew1) | exact HB.out)) hb); clear HO_5; clear HO279; clear HO282; clear HB; have HO_5 := n0_; have HO279 := n1_; have HO282 := n2_; have HB := n3_; clear n0_ n1_ n2_ n3_; (try clear hb); (try clear hb2); (try clear hk); (try clear hi)))
                    go_ret
                    exact ⟨by first | rfl | (simp [errW_none, errW_some] <;> rfl) | (simp [*, errW_none, errW_some] <;> rfl), by repeat (first | (with_reducible first | exact HB.out | apply below_alloc | apply pw_below_drewN | apply below_drew1) | exact HB.out)⟩
                · rw [if_neg c11] at H
                  exact absurd H (by simp)
              · rw [if_neg c10] at H
                have c10b0 : (t275 == 0) = false := beq_eq_false_iff_ne.mpr c10
                have c10b1 : (t275 != 0) = true := bne_iff_ne.mpr c10
                replace H := Option.bind_eq_some_iff.mp H
                obtain ⟨t284, A260, H⟩ := H
                replace H : (if t284 = true then (reeflaw09_ExtentMoves.l0 k1 (wrap64 (1 + (wrap64 (Int.tmod (IntKind.u64.wrap (a0)) 200)))) x5_1 x6_1 l1 (l1.length : Int) (wrap64 (x33_1 + 1))) else (some false)) = some r := H
                have A26 := Aside0.mk A260
                clear A260
                by_cases c27 : t284 = true
                · subst c27
                  have H1 : (reeflaw09_ExtentMoves.l0 k1 (wrap64 (1 + (wrap64 (Int.tmod (IntKind.u64.wrap (a0)) 200)))) x5_1 x6_1 l1 (l1.length : Int) (wrap64 (x33_1 + 1))) = some r := by rw [if_pos rfl] at H; exact H
                  clear H
                  have H := H1
                  clear H1
                  have H' := Aside0.mk H
                  clear H
                  have p272 : 0 ≤ (x33_1 : Int) := of_decide_eq_true (by first | (with_reducible assumption) | assumption)
                  have q272 : x33_1 < (l1.length : Int) := of_decide_eq_true (by first | (with_reducible assumption) | assumption)
                  obtain ⟨ad272, e272, hx272_0⟩ := Kd.at_int HR1.out x33_1 p272 q272
                  cases e272
                  replace hx272_0 := (HB.out.cell (World.block_lt_of_cell? w _ hx272_0)).trans hx272_0
                  replace p272 := eq_true p272
                  replace q272 := eq_true q272
                  obtain ⟨Ao28, co28, eo28⟩ := Kd.R_slice HO_5.out
                  subst eo28
                  go_wp2_with (first | ((with_reducible refine gate_callee (f := 13) rfl ?_); refine goesL_ (some 43) rfl rfl Try.func13 (by kernel_rfl) rfl #[.slice Ao28 x5_1.length co28, .int .i64 (Int.tmod (rd l1 x33_1) 40)] rfl (by (try simp only [List.map_toArray, List.map_cons, List.map_nil]); first | done | rfl | (simp only [List.length_drop, List.length_take]; rfl)) ?_; (with_reducible refine (extent_Take.calls _ _ x5_1 (Int.tmod (rd l1 x33_1) 40) t273 t274 t275 _ ?side1 ?side2 A9.out).mono ?_); (case side1 => repeat (first | exact (Kd.R_reads' HO_5.out).2.2 | (with_reducible refine Kd.C_alloc ?_ _) | (with_reducible refine Kd.C_drewN ?_ _) | (with_reducible refine Kd.C_drew ?_))); (case side2 => exact (Kd.R_reads' HO_5.out).2.1); rintro e w29 ⟨v276, v278, rfl, ho0, ho1, hb⟩; refine ⟨_, rfl, ?_⟩; have n0_ := Aside0.mk (Kd.R_mono (Kd.R_told (Kd.R_told (Kd.R_old (by (with_reducible repeat (first | apply Kd.R_alloc | apply Kd.R_drewN | apply Kd.R_drew)); exact HO_5.out) hb) (Kd.R_base ho0)) (Kd.R_base ho1)) (fun _ h_ => h_.1)); have n1_ := Aside0.mk (Kd.N_mono (Kd.N_told (Kd.N_told (Kd.N_old (by (with_reducible repeat (first | apply Kd.N_alloc | apply Kd.N_drewN | apply Kd.N_drew)); exact HO_6.out) hb) (Kd.R_base ho0)) (Kd.R_base ho1)) (fun _ h_ => h_.1)); have n2_ := Aside0.mk (Kd.R_lower (Kd.R_new' ho0 (Kd.R_lt (by (with_reducible repeat (first | apply Kd.R_alloc | apply Kd.R_drewN | apply Kd.R_drew)); exact HO_5.out))) (below_size (by repeat (first | (with_reducible first | exact HB.out | apply below_alloc | apply pw_below_drewN | apply below_drew1) | exact HB.out)))); have n3_ := Aside0.mk (Kd.R_lower (Kd.R_new' ho1 (Kd.R_lt (by (with_reducible repeat (first | apply Kd.R_alloc | apply Kd.R_drewN | apply Kd.R_drew)); exact HO_5.out))) (below_size (by repeat (first | (with_reducible first | exact HB.out | apply below_alloc | apply pw_below_drewN | apply below_drew1) | exact HB.out)))); have n4_ := Aside0.mk (below_step (by repeat (first | (with_reducible first | exact HB.out | apply below_alloc | apply pw_below_drewN | apply below_drew1) | exact HB.out)) hb); clear HO_5; clear HO_6; clear HB; have HO_5 := n0_; have HO_6 := n1_; have HO277 := n2_; have HO279 := n3_; have HB := n4_; clear n0_ n1_ n2_ n3_ n4_; (try clear hb); (try clear hb2); (try clear hk); (try clear hi); (try clear ho0); (try clear ho1)) | ((with_reducible refine gate_callee (f := 6) rfl ?_); refine goesL_ (some 89) rfl rfl Try.func6 (by kernel_rfl) rfl #[.int .i64 (wrap64 (1 + (wrap64 (Int.tmod (IntKind.u64.wrap (a0)) 200)))), .slice Ao28 x5_1.length co28] rfl (by (try simp only [List.map_toArray, List.map_cons, List.map_nil]); first | done | rfl | (simp only [List.length_drop, List.length_take]; rfl)) ?_; (with_reducible refine (extent_Fit.calls k1 (wrap64 (1 + (wrap64 (Int.tmod (IntKind.u64.wrap (a0)) 200)))) _ _ x5_1 true _ ?side1 ?side2 A26.out).mono ?_); (case side1 => repeat (first | exact (Kd.R_reads' HO_5.out).2.2 | (with_reducible refine Kd.C_alloc ?_ _) | (with_reducible refine Kd.C_drewN ?_ _) | (with_reducible refine Kd.C_drew ?_))); (case side2 => exact (Kd.R_reads' HO_5.out).2.1); rintro e w30 ⟨rfl, hb⟩; refine ⟨_, rfl, ?_⟩; have n0_ := Aside0.mk (Kd.R_below (by (with_reducible repeat (first | apply Kd.R_alloc | apply Kd.R_drewN | apply Kd.R_drew)); exact HO_5.out) hb); have n1_ := Aside0.mk (Kd.N_below (by (with_reducible repeat (first | apply Kd.N_alloc | apply Kd.N_drewN | apply Kd.N_drew)); exact HO_6.out) hb); have n2_ := Aside0.mk (Kd.R_below (by (with_reducible repeat (first | apply Kd.R_alloc | apply Kd.R_drewN | apply Kd.R_drew)); exact HO277.out) hb); have n3_ := Aside0.mk (Kd.R_below (by (with_reducible repeat (first | apply Kd.R_alloc | apply Kd.R_drewN | apply Kd.R_drew)); exact HO279.out) hb); have n4_ := Aside0.mk (below_step (by repeat (first | (with_reducible first | exact HB.out | apply below_alloc | apply pw_below_drewN | apply below_drew1) | exact HB.out)) hb); clear HO_5; clear HO_6; clear HO277; clear HO279; clear HB; have HO_5 := n0_; have HO_6 := n1_; have HO277 := n2_; have HO279 := n3_; have HB := n4_; clear n0_ n1_ n2_ n3_ n4_; (try clear hb); (try clear hb2); (try clear hk); (try clear hi)))
                  go_roundg k1
                  case measure => have := HK1.out; omega
                  case rel => exact ⟨(x5_1), (x6_1), (wrap64 (x33_1 + 1)), (by first | rfl | (simp; done) | (simp [*]; done)), H', ⟨by have := HK1.out; omega⟩, ⟨by (with_reducible repeat (first | apply Kd.R_alloc | apply Kd.R_drewN | apply Kd.R_drew)); exact Kd.R_mono HO_5.out (fun _ hk => trivial)⟩, ⟨by (with_reducible repeat (first | apply Kd.N_alloc | apply Kd.N_drewN | apply Kd.N_drew)); exact Kd.N_mono HO_6.out (fun _ hk => hk.1.1)⟩, ⟨by repeat (first | (with_reducible first | exact HB.out | apply below_alloc | apply pw_below_drewN | apply below_drew1) | exact HB.out)⟩⟩
                · replace c27 := Bool.eq_false_iff.mpr c27
                  subst c27
                  have H1 : (some false) = some r := by rw [if_neg (show ¬ (false = true) by decide)] at H; exact H
                  clear H
                  have H := H1
                  clear H1
                  obtain rfl := Option.some.inj H
                  have p272 : 0 ≤ (x33_1 : Int) := of_decide_eq_true (by first | (with_reducible assumption) | assumption)
                  have q272 : x33_1 < (l1.length : Int) := of_decide_eq_true (by first | (with_reducible assumption) | assumption)
                  obtain ⟨ad272, e272, hx272_0⟩ := Kd.at_int HR1.out x33_1 p272 q272
                  cases e272
                  replace hx272_0 := (HB.out.cell (World.block_lt_of_cell? w _ hx272_0)).trans hx272_0
                  replace p272 := eq_true p272
                  replace q272 := eq_true q272
                  obtain ⟨Ao31, co31, eo31⟩ := Kd.R_slice HO_5.out
                  subst eo31
                  go_wp2_with (first | ((with_reducible refine gate_callee (f := 13) rfl ?_); refine goesL_ (some 43) rfl rfl Try.func13 (by kernel_rfl) rfl #[.slice Ao31 x5_1.length co31, .int .i64 (Int.tmod (rd l1 x33_1) 40)] rfl (by (try simp only [List.map_toArray, List.map_cons, List.map_nil]); first | done | rfl | (simp only [List.length_drop, List.length_take]; rfl)) ?_; (with_reducible refine (extent_Take.calls _ _ x5_1 (Int.tmod (rd l1 x33_1) 40) t273 t274 t275 _ ?side1 ?side2 A9.out).mono ?_); (case side1 => repeat (first | exact (Kd.R_reads' HO_5.out).2.2 | (with_reducible refine Kd.C_alloc ?_ _) | (with_reducible refine Kd.C_drewN ?_ _) | (with_reducible refine Kd.C_drew ?_))); (case side2 => exact (Kd.R_reads' HO_5.out).2.1); rintro e w32 ⟨v276, v278, rfl, ho0, ho1, hb⟩; refine ⟨_, rfl, ?_⟩; have n0_ := Aside0.mk (Kd.R_mono (Kd.R_told (Kd.R_told (Kd.R_old (by (with_reducible repeat (first | apply Kd.R_alloc | apply Kd.R_drewN | apply Kd.R_drew)); exact HO_5.out) hb) (Kd.R_base ho0)) (Kd.R_base ho1)) (fun _ h_ => h_.1)); have n1_ := Aside0.mk (Kd.N_mono (Kd.N_told (Kd.N_told (Kd.N_old (by (with_reducible repeat (first | apply Kd.N_alloc | apply Kd.N_drewN | apply Kd.N_drew)); exact HO_6.out) hb) (Kd.R_base ho0)) (Kd.R_base ho1)) (fun _ h_ => h_.1)); have n2_ := Aside0.mk (Kd.R_lower (Kd.R_new' ho0 (Kd.R_lt (by (with_reducible repeat (first | apply Kd.R_alloc | apply Kd.R_drewN | apply Kd.R_drew)); exact HO_5.out))) (below_size (by repeat (first | (with_reducible first | exact HB.out | apply below_alloc | apply pw_below_drewN | apply below_drew1) | exact HB.out)))); have n3_ := Aside0.mk (Kd.R_lower (Kd.R_new' ho1 (Kd.R_lt (by (with_reducible repeat (first | apply Kd.R_alloc | apply Kd.R_drewN | apply Kd.R_drew)); exact HO_5.out))) (below_size (by repeat (first | (with_reducible first | exact HB.out | apply below_alloc | apply pw_below_drewN | apply below_drew1) | exact HB.out)))); have n4_ := Aside0.mk (below_step (by repeat (first | (with_reducible first | exact HB.out | apply below_alloc | apply pw_below_drewN | apply below_drew1) | exact HB.out)) hb); clear HO_5; clear HO_6; clear HB; have HO_5 := n0_; have HO_6 := n1_; have HO277 := n2_; have HO279 := n3_; have HB := n4_; clear n0_ n1_ n2_ n3_ n4_; (try clear hb); (try clear hb2); (try clear hk); (try clear hi); (try clear ho0); (try clear ho1)) | ((with_reducible refine gate_callee (f := 6) rfl ?_); refine goesL_ (some 89) rfl rfl Try.func6 (by kernel_rfl) rfl #[.int .i64 (wrap64 (1 + (wrap64 (Int.tmod (IntKind.u64.wrap (a0)) 200)))), .slice Ao31 x5_1.length co31] rfl (by (try simp only [List.map_toArray, List.map_cons, List.map_nil]); first | done | rfl | (simp only [List.length_drop, List.length_take]; rfl)) ?_; (with_reducible refine (extent_Fit.calls k1 (wrap64 (1 + (wrap64 (Int.tmod (IntKind.u64.wrap (a0)) 200)))) _ _ x5_1 false _ ?side1 ?side2 A26.out).mono ?_); (case side1 => repeat (first | exact (Kd.R_reads' HO_5.out).2.2 | (with_reducible refine Kd.C_alloc ?_ _) | (with_reducible refine Kd.C_drewN ?_ _) | (with_reducible refine Kd.C_drew ?_))); (case side2 => exact (Kd.R_reads' HO_5.out).2.1); rintro e w33 ⟨rfl, hb⟩; refine ⟨_, rfl, ?_⟩; have n0_ := Aside0.mk (Kd.R_below (by (with_reducible repeat (first | apply Kd.R_alloc | apply Kd.R_drewN | apply Kd.R_drew)); exact HO_5.out) hb); have n1_ := Aside0.mk (Kd.N_below (by (with_reducible repeat (first | apply Kd.N_alloc | apply Kd.N_drewN | apply Kd.N_drew)); exact HO_6.out) hb); have n2_ := Aside0.mk (Kd.R_below (by (with_reducible repeat (first | apply Kd.R_alloc | apply Kd.R_drewN | apply Kd.R_drew)); exact HO277.out) hb); have n3_ := Aside0.mk (Kd.R_below (by (with_reducible repeat (first | apply Kd.R_alloc | apply Kd.R_drewN | apply Kd.R_drew)); exact HO279.out) hb); have n4_ := Aside0.mk (below_step (by repeat (first | (with_reducible first | exact HB.out | apply below_alloc | apply pw_below_drewN | apply below_drew1) | exact HB.out)) hb); clear HO_5; clear HO_6; clear HO277; clear HO279; clear HB; have HO_5 := n0_; have HO_6 := n1_; have HO277 := n2_; have HO279 := n3_; have HB := n4_; clear n0_ n1_ n2_ n3_ n4_; (try clear hb); (try clear hb2); (try clear hk); (try clear hi)))
                  go_ret
                  exact ⟨by first | rfl | (simp [errW_none, errW_some] <;> rfl) | (simp [*, errW_none, errW_some] <;> rfl), by repeat (first | (with_reducible first | exact HB.out | apply below_alloc | apply pw_below_drewN | apply below_drew1) | exact HB.out)⟩
            · rw [if_neg c8] at H
              have c8b0 : decide (0 ≤ (rd l1 x33_1)) = false := decide_eq_false c8
              clear c8
              by_cases c34 : (x6_1.length : Int) > 0
              · rw [if_pos c34] at H
                have c34b0 : decide (0 < (x6_1.length : Int)) = true := decide_eq_true c34
                have c34b1 : decide (0 < x6_1.length) = true := decide_eq_true (by omega)
                clear c34
                by_cases c35 : (IntKind.u64.wrap ((x6_1.length : Int))) = 0
                · rw [if_pos c35] at H
                  exact absurd H (by simp)
                · rw [if_neg c35] at H
                  have c35b0 : ((IntKind.u64.wrap ((x6_1.length : Int))) == 0) = false := beq_eq_false_iff_ne.mpr c35
                  have c35b1 : ((IntKind.u64.wrap ((x6_1.length : Int))) != 0) = true := bne_iff_ne.mpr c35
                  obtain ⟨ji36, hji36⟩ : ∃ j_ : Int, (wrap64 (Int.tmod (IntKind.u64.wrap (rd l1 x33_1)) (IntKind.u64.wrap ((x6_1.length : Int))))) = j_ := ⟨_, rfl⟩
                  replace H : (if 0 ≤ (ji36) then (if (ji36) < (x6_1.length : Int) then ((extent_Give.f (wrap64 (1 + (wrap64 (Int.tmod (IntKind.u64.wrap (a0)) 200)))) x5_1 (rd_L3 x6_1 (ji36))).bind fun bt286 => (if bt286.2 = 0 then ((some (([] : List (List (S47))) : List (List (S47)))).bind fun y290 => (if (ji36) ≤ (x6_1.length : Int) then ((some (x6_1.take ((ji36) : Int).toNat : List (List (S47)))).bind fun y293 => (if y290.length + y293.length < 5864062014805 then ((some (y290 ++ y293 : List (List (S47)))).bind fun y298 => (if 0 ≤ (wrap64 ((ji36) + 1)) then (if (wrap64 ((ji36) + 1)) ≤ (x6_1.length : Int) then ((some (x6_1.drop ((wrap64 ((ji36) + 1)) : Int).toNat : List (List (S47)))).bind fun y301 => (if y298.length + y301.length < 5864062014805 then ((extent_Fit.f k1 (wrap64 (1 + (wrap64 (Int.tmod (IntKind.u64.wrap (a0)) 200)))) bt286.1).bind fun t309 => (if t309 = true then (reeflaw09_ExtentMoves.l0 k1 (wrap64 (1 + (wrap64 (Int.tmod (IntKind.u64.wrap (a0)) 200)))) bt286.1 (y298 ++ y301) l1 (l1.length : Int) (wrap64 (x33_1 + 1))) else (some false))) else (none))) else (none)) else (none))) else (none))) else (none))) else (some false))) else (none)) else (none)) = some r := by first | (rw [hji36] at H; exact H) | (simp only [hji36] at H ⊢; exact H)
                  have hji36w : (IntKind.i64.wrap (Int.tmod (IntKind.u64.wrap (rd l1 x33_1)) (IntKind.u64.wrap ((x6_1.length : Int))))) = ji36 := (i64_w _).trans hji36
                  by_cases c37 : 0 ≤ (ji36)
                  · rw [if_pos c37] at H
                    have c37b0 : decide (0 ≤ (ji36)) = true := decide_eq_true c37
                    clear c37
                    by_cases c38 : (ji36) < (x6_1.length : Int)
                    · rw [if_pos c38] at H
                      have c38b0 : decide ((ji36) < (x6_1.length : Int)) = true := decide_eq_true c38
                      clear c38
                      replace H := Option.bind_eq_some_iff.mp H
                      obtain ⟨⟨t286, t287⟩, A390, H⟩ := H
                      replace H : (if t287 = 0 then ((some (([] : List (List (S47))) : List (List (S47)))).bind fun y290 => (if (ji36) ≤ (x6_1.length : Int) then ((some (x6_1.take ((ji36) : Int).toNat : List (List (S47)))).bind fun y293 => (if y290.length + y293.length < 5864062014805 then ((some (y290 ++ y293 : List (List (S47)))).bind fun y298 => (if 0 ≤ (wrap64 ((ji36) + 1)) then (if (wrap64 ((ji36) + 1)) ≤ (x6_1.length : Int) then ((some (x6_1.drop ((wrap64 ((ji36) + 1)) : Int).toNat : List (List (S47)))).bind fun y301 => (if y298.length + y301.length < 5864062014805 then ((extent_Fit.f k1 (wrap64 (1 + (wrap64 (Int.tmod (IntKind.u64.wrap (a0)) 200)))) t286).bind fun t309 => (if t309 = true then (reeflaw09_ExtentMoves.l0 k1 (wrap64 (1 + (wrap64 (Int.tmod (IntKind.u64.wrap (a0)) 200)))) t286 (y298 ++ y301) l1 (l1.length : Int) (wrap64 (x33_1 + 1))) else (some false))) else (none))) else (none)) else (none))) else (none))) else (none))) else (some false)) = some r := H
                      have A39 := Aside0.mk A390
                      clear A390
                      by_cases c40 : t287 = 0
                      · rw [if_pos c40] at H
                        have c40b0 : (t287 == 0) = true := beq_iff_eq.mpr c40
                        have c40b1 : (t287 != 0) = false := bne_eq_false_iff_eq.mpr c40
                        clear c40
                        obtain ⟨y290, hy290⟩ : ∃ y_ : List (List (S47)), y_ = (([] : List (List (S47)))) := ⟨_, rfl⟩
                        replace H : (if (ji36) ≤ (x6_1.length : Int) then ((some (x6_1.take ((ji36) : Int).toNat : List (List (S47)))).bind fun y293 => (if y290.length + y293.length < 5864062014805 then ((some (y290 ++ y293 : List (List (S47)))).bind fun y298 => (if 0 ≤ (wrap64 ((ji36) + 1)) then (if (wrap64 ((ji36) + 1)) ≤ (x6_1.length : Int) then ((some (x6_1.drop ((wrap64 ((ji36) + 1)) : Int).toNat : List (List (S47)))).bind fun y301 => (if y298.length + y301.length < 5864062014805 then ((extent_Fit.f k1 (wrap64 (1 + (wrap64 (Int.tmod (IntKind.u64.wrap (a0)) 200)))) t286).bind fun t309 => (if t309 = true then (reeflaw09_ExtentMoves.l0 k1 (wrap64 (1 + (wrap64 (Int.tmod (IntKind.u64.wrap (a0)) 200)))) t286 (y298 ++ y301) l1 (l1.length : Int) (wrap64 (x33_1 + 1))) else (some false))) else (none))) else (none)) else (none))) else (none))) else (none)) = some r := by first | (rw [hy290]; with_reducible exact H) | (have H2_ := (Option.bind_some _ _).symm.trans H; rw [hy290]; with_reducible exact H2_) | (have H2_ := (Option.bind_some _ _).symm.trans H; with_reducible exact H2_) | with_reducible exact H | (rw [hy290]; exact H) | exact H
                        have Ny290 := Aside0.mk hy290
                        clear hy290
                        have c41b0 := eq_true (of_decide_eq_true (by first | (with_reducible assumption) | assumption) : 0 ≤ (ji36))
                        by_cases c42 : (ji36) ≤ (x6_1.length : Int)
                        · rw [if_pos c42] at H
                          have c42b0 := eq_true c42
                          have c42b1 : decide ((ji36) ≤ (x6_1.length : Int)) = true := decide_eq_true c42
                          clear c42
                          obtain ⟨y293, hy293⟩ : ∃ y_ : List (List (S47)), y_ = (x6_1.take ((ji36) : Int).toNat) := ⟨_, rfl⟩
                          replace H : (if y290.length + y293.length < 5864062014805 then ((some (y290 ++ y293 : List (List (S47)))).bind fun y298 => (if 0 ≤ (wrap64 ((ji36) + 1)) then (if (wrap64 ((ji36) + 1)) ≤ (x6_1.length : Int) then ((some (x6_1.drop ((wrap64 ((ji36) + 1)) : Int).toNat : List (List (S47)))).bind fun y301 => (if y298.length + y301.length < 5864062014805 then ((extent_Fit.f k1 (wrap64 (1 + (wrap64 (Int.tmod (IntKind.u64.wrap (a0)) 200)))) t286).bind fun t309 => (if t309 = true then (reeflaw09_ExtentMoves.l0 k1 (wrap64 (1 + (wrap64 (Int.tmod (IntKind.u64.wrap (a0)) 200)))) t286 (y298 ++ y301) l1 (l1.length : Int) (wrap64 (x33_1 + 1))) else (some false))) else (none))) else (none)) else (none))) else (none)) = some r := by first | (rw [hy293]; with_reducible exact H) | (have H2_ := (Option.bind_some _ _).symm.trans H; rw [hy293]; with_reducible exact H2_) | (have H2_ := (Option.bind_some _ _).symm.trans H; with_reducible exact H2_) | with_reducible exact H | (rw [hy293]; exact H) | exact H
                          have Ny293 := Aside0.mk hy293
                          clear hy293
                          by_cases c43 : y290.length + y293.length < 5864062014805
                          · rw [if_pos c43] at H
                            have LMc43 := Aside0.mk c43
                            clear c43
                            obtain ⟨y298, hy298⟩ : ∃ y_ : List (List (S47)), y_ = (y290 ++ y293) := ⟨_, rfl⟩
                            replace H : (if 0 ≤ (wrap64 ((ji36) + 1)) then (if (wrap64 ((ji36) + 1)) ≤ (x6_1.length : Int) then ((some (x6_1.drop ((wrap64 ((ji36) + 1)) : Int).toNat : List (List (S47)))).bind fun y301 => (if y298.length + y301.length < 5864062014805 then ((extent_Fit.f k1 (wrap64 (1 + (wrap64 (Int.tmod (IntKind.u64.wrap (a0)) 200)))) t286).bind fun t309 => (if t309 = true then (reeflaw09_ExtentMoves.l0 k1 (wrap64 (1 + (wrap64 (Int.tmod (IntKind.u64.wrap (a0)) 200)))) t286 (y298 ++ y301) l1 (l1.length : Int) (wrap64 (x33_1 + 1))) else (some false))) else (none))) else (none)) else (none)) = some r := by first | (rw [hy298]; with_reducible exact H) | (have H2_ := (Option.bind_some _ _).symm.trans H; rw [hy298]; with_reducible exact H2_) | (have H2_ := (Option.bind_some _ _).symm.trans H; with_reducible exact H2_) | with_reducible exact H | (rw [hy298]; exact H) | exact H
                            have Ny298 := Aside0.mk hy298
                            clear hy298
                            obtain ⟨ji44, hji44⟩ : ∃ j_ : Int, (wrap64 ((ji36) + 1)) = j_ := ⟨_, rfl⟩
                            replace H : (if 0 ≤ (ji44) then (if (ji44) ≤ (x6_1.length : Int) then ((some (x6_1.drop ((ji44) : Int).toNat : List (List (S47)))).bind fun y301 => (if y298.length + y301.length < 5864062014805 then ((extent_Fit.f k1 (wrap64 (1 + (wrap64 (Int.tmod (IntKind.u64.wrap (a0)) 200)))) t286).bind fun t309 => (if t309 = true then (reeflaw09_ExtentMoves.l0 k1 (wrap64 (1 + (wrap64 (Int.tmod (IntKind.u64.wrap (a0)) 200)))) t286 (y298 ++ y301) l1 (l1.length : Int) (wrap64 (x33_1 + 1))) else (some false))) else (none))) else (none)) else (none)) = some r := by first | (rw [hji44] at H; exact H) | (simp only [hji44] at H ⊢; exact H)
                            (try rw [hji44] at A39)
                            have hji44w : (IntKind.i64.wrap ((ji36) + 1)) = ji44 := (i64_w _).trans hji44
                            by_cases c45 : 0 ≤ (ji44)
                            · rw [if_pos c45] at H
                              have c45b0 := eq_true c45
                              have c45b1 : decide (0 ≤ (ji44)) = true := decide_eq_true c45
                              clear c45
                              by_cases c46 : (ji44) ≤ (x6_1.length : Int)
                              · rw [if_pos c46] at H
                                have c46b0 := eq_true c46
                                have c46b1 : decide ((ji44) ≤ (x6_1.length : Int)) = true := decide_eq_true c46
                                clear c46
                                obtain ⟨y301, hy301⟩ : ∃ y_ : List (List (S47)), y_ = (x6_1.drop ((ji44) : Int).toNat) := ⟨_, rfl⟩
                                replace H : (if y298.length + y301.length < 5864062014805 then ((extent_Fit.f k1 (wrap64 (1 + (wrap64 (Int.tmod (IntKind.u64.wrap (a0)) 200)))) t286).bind fun t309 => (if t309 = true then (reeflaw09_ExtentMoves.l0 k1 (wrap64 (1 + (wrap64 (Int.tmod (IntKind.u64.wrap (a0)) 200)))) t286 (y298 ++ y301) l1 (l1.length : Int) (wrap64 (x33_1 + 1))) else (some false))) else (none)) = some r := by first | (rw [hy301]; with_reducible exact H) | (have H2_ := (Option.bind_some _ _).symm.trans H; rw [hy301]; with_reducible exact H2_) | (have H2_ := (Option.bind_some _ _).symm.trans H; with_reducible exact H2_) | with_reducible exact H | (rw [hy301]; exact H) | exact H
                                have Ny301 := Aside0.mk hy301
                                clear hy301
                                by_cases c47 : y298.length + y301.length < 5864062014805
                                · rw [if_pos c47] at H
                                  have LMc47 := Aside0.mk c47
                                  clear c47
                                  obtain ⟨y306, hy306⟩ : ∃ y_ : List (List (S47)), y_ = (y298 ++ y301) := ⟨_, rfl⟩
                                  replace H : ((extent_Fit.f k1 (wrap64 (1 + (wrap64 (Int.tmod (IntKind.u64.wrap (a0)) 200)))) t286).bind fun t309 => (if t309 = true then (reeflaw09_ExtentMoves.l0 k1 (wrap64 (1 + (wrap64 (Int.tmod (IntKind.u64.wrap (a0)) 200)))) t286 y306 l1 (l1.length : Int) (wrap64 (x33_1 + 1))) else (some false))) = some r := by first | (rw [hy306]; with_reducible exact H) | (have H2_ := (Option.bind_some _ _).symm.trans H; rw [hy306]; with_reducible exact H2_) | (have H2_ := (Option.bind_some _ _).symm.trans H; with_reducible exact H2_) | with_reducible exact H | (rw [hy306]; exact H) | exact H
                                  have Ny306 := Aside0.mk hy306
                                  clear hy306
                                  replace H := Option.bind_eq_some_iff.mp H
                                  obtain ⟨t309, A480, H⟩ := H
                                  replace H : (if t309 = true then (reeflaw09_ExtentMoves.l0 k1 (wrap64 (1 + (wrap64 (Int.tmod (IntKind.u64.wrap (a0)) 200)))) t286 y306 l1 (l1.length : Int) (wrap64 (x33_1 + 1))) else (some false)) = some r := H
                                  have A48 := Aside0.mk A480
                                  clear A480
                                  by_cases c49 : t309 = true
                                  · subst c49
                                    have H1 : (reeflaw09_ExtentMoves.l0 k1 (wrap64 (1 + (wrap64 (Int.tmod (IntKind.u64.wrap (a0)) 200)))) t286 y306 l1 (l1.length : Int) (wrap64 (x33_1 + 1))) = some r := by rw [if_pos rfl] at H; exact H
                                    clear H
                                    have H := H1
                                    clear H1
                                    have H' := Aside0.mk H
                                    clear H
                                    have p272 : 0 ≤ (x33_1 : Int) := of_decide_eq_true (by first | (with_reducible assumption) | assumption)
                                    have q272 : x33_1 < (l1.length : Int) := of_decide_eq_true (by first | (with_reducible assumption) | assumption)
                                    obtain ⟨ad272, e272, hx272_0⟩ := Kd.at_int HR1.out x33_1 p272 q272
                                    cases e272
                                    replace hx272_0 := (HB.out.cell (World.block_lt_of_cell? w _ hx272_0)).trans hx272_0
                                    replace p272 := eq_true p272
                                    replace q272 := eq_true q272
                                    obtain ⟨Ao50, co50, eo50⟩ := Kd.N_slice HO_6.out
                                    subst eo50
                                    have p285 : 0 ≤ ((ji36) : Int) := of_decide_eq_true (by first | (with_reducible assumption) | assumption)
                                    have q285 : (ji36) < (x6_1.length : Int) := of_decide_eq_true (by first | (with_reducible assumption) | assumption)
                                    obtain ⟨ad285, A285_0, c285_0, e285, hx285_0, hl285_0, hi285_0⟩ := at_L3 (Kd.N_reads' HO_6.out).2.2 (ji36) p285 q285
                                    cases e285
                                    obtain ⟨ce285, hce285, hMe285, hcc285⟩ := Kd.N_get HO_6.out [] (ji36) p285 (by first | exact q285 | exact of_decide_eq_true (by first | (with_reducible assumption) | assumption) | (have e_ := (Kd.N_reads' HO_6.out).1; omega))
                                    obtain ⟨ua285_0, uc285_0, rfl, ul285_0, ge285_0⟩ := Kd.FK_slice_open hMe285
                                    have hv285_0 := hcc285 0 _ rfl
                                    rw [Nat.add_zero, show ((Kd.slice 47 k47)).sz = 1 from rfl, Nat.mul_one] at hv285_0
                                    replace hv285_0 := Option.some.inj (hv285_0.symm.trans hx285_0)
                                    injection hv285_0 with hva_ hvn_ hvc_
                                    rw [hva_] at ge285_0
                                    rw [hvc_] at ul285_0
                                    have HL285_0 := Aside0.mk (show Kd.V k47 47 _ w.heap.size _ _ (rd_L3 x6_1 (ji36)) from Kd.V_mk ul285_0 ge285_0)
                                    clear hva_ hvn_ hvc_ ge285_0 ul285_0
                                    clear hcc285 hce285
                                    have HR285_0 := Aside0.mk hi285_0
                                    have HC285_0 := Aside0.mk hl285_0
                                    clear hi285_0 hl285_0
                                    replace p285 := eq_true p285
                                    replace q285 := eq_true q285
                                    obtain ⟨Ao51, co51, eo51⟩ := Kd.R_slice HO_5.out
                                    subst eo51
                                    try go_wp2_with (first | ((with_reducible refine gate_callee (f := 15) rfl ?_); refine goesL_ (some 71) rfl rfl Try.func15 (by kernel_rfl) rfl #[.int .i64 (wrap64 (1 + (wrap64 (Int.tmod (IntKind.u64.wrap (a0)) 200)))), .slice Ao51 x5_1.length co51, .slice A285_0 (rd_L3 x6_1 (ji36)).length c285_0] rfl (by (try simp only [List.map_toArray, List.map_cons, List.map_nil]); first | done | (simp only [hji36]; rfl) | rfl | (simp only [List.length_drop, List.length_take]; rfl)) ?_; (with_reducible refine (extent_Give.calls (wrap64 (1 + (wrap64 (Int.tmod (IntKind.u64.wrap (a0)) 200)))) _ _ x5_1 _ _ (rd_L3 x6_1 (ji36)) t286 t287 _ ?side1 ?side2 ?side3 ?side4 A39.out).mono ?_); (case side1 => repeat (first | exact (Kd.R_reads' HO_5.out).2.2 | (with_reducible refine Kd.C_alloc ?_ _) | (with_reducible refine Kd.C_drewN ?_ _) | (with_reducible refine Kd.C_drew ?_))); (case side2 => exact (Kd.R_reads' HO_5.out).2.1); (case side3 => repeat (first | exact (by repeat (first | (with_reducible exact HR285_0.out) | (with_reducible refine Kd.C_alloc ?_ _) | (with_reducible refine Kd.C_drewN ?_ _) | (with_reducible refine Kd.C_drew ?_) | exact HR285_0.out)) | (with_reducible refine Kd.C_alloc ?_ _) | (with_reducible refine Kd.C_drewN ?_ _) | (with_reducible refine Kd.C_drew ?_))); (case side4 => exact HC285_0.out); rintro e w52 ⟨v288, rfl, ho0, hb⟩; refine ⟨_, rfl, ?_⟩; have n0_ := Aside0.mk (Kd.R_elder' (by (with_reducible repeat (first | apply Kd.R_alloc | apply Kd.R_drewN | apply Kd.R_drew)); exact HO_5.out) (Kd.R_base ho0) hb); have n1_ := Aside0.mk (Kd.N_elder' (by (with_reducible repeat (first | apply Kd.N_alloc | apply Kd.N_drewN | apply Kd.N_drew)); exact HO_6.out) (Kd.R_base ho0) hb); have n2_ := Aside0.mk (Kd.V_elder' (by (with_reducible repeat (first | apply Kd.V_alloc | apply Kd.V_drewN | apply Kd.V_drew)); exact HL285_0.out) (Kd.R_base ho0) hb); have n3_ := Aside0.mk (Kd.R_lower (Kd.R_new' ho0 (Kd.R_lt (by (with_reducible repeat (first | apply Kd.R_alloc | apply Kd.R_drewN | apply Kd.R_drew)); exact HO_5.out))) (below_size (by repeat (first | (with_reducible first | exact HB.out | apply below_alloc | apply pw_below_drewN | apply below_drew1) | exact HB.out)))); have n4_ := Aside0.mk (Kd.C_below (by repeat (first | (with_reducible exact HR285_0.out) | (with_reducible refine Kd.C_alloc ?_ _) | (with_reducible refine Kd.C_drewN ?_ _) | (with_reducible refine Kd.C_drew ?_) | exact HR285_0.out)) hb); have n5_ := Aside0.mk (below_step (by repeat (first | (with_reducible first | exact HB.out | apply below_alloc | apply pw_below_drewN | apply below_drew1) | exact HB.out)) hb); clear HO_5; clear HO_6; clear HL285_0; clear HR285_0; clear HB; have HO_5 := n0_; have HO_6 := n1_; have HL285_0 := n2_; have HO289 := n3_; have HR285_0 := n4_; have HB := n5_; clear n0_ n1_ n2_ n3_ n4_ n5_; (try clear hb); (try clear hb2); (try clear hk); (try clear hi); (try clear ho0)))
                                    have n0_ := Aside0.mk (Kd.R_drew HO_5.out)
                                    have n1_ := Aside0.mk (Kd.N_drew HO_6.out)
                                    have n2_ := Aside0.mk (Kd.V_drew HL285_0.out)
                                    have n3_ := Aside0.mk (Kd.R_drew HO289.out)
                                    have n4_ := Aside0.mk (Kd.C_drew HR285_0.out)
                                    have n5_ := Aside0.mk (below_drew1 HB.out)
                                    clear HO_5
                                    clear HO_6
                                    clear HL285_0
                                    clear HO289
                                    clear HR285_0
                                    clear HB
                                    have HO_5 := n0_
                                    have HO_6 := n1_
                                    have HL285_0 := n2_
                                    have HO289 := n3_
                                    have HR285_0 := n4_
                                    have HB := n5_
                                    clear n0_ n1_ n2_ n3_ n4_ n5_
                                    have q54 : ((ji36) : Int) ≤ ((x6_1.length : Int) : Int) := of_decide_eq_true (by first | (with_reducible assumption) | assumption)
                                    obtain ⟨i054, hi054, _, hsz54, _⟩ := info_parts info22
                                    have hroom54 : x6_1.length ≤ co50 := (Kd.N_reads' HO_6.out).2.1
                                    have hC54 : Kd.F (Kd.slice 47 k47) _ _ (some ad285) x6_1.length x6_1 := (Kd.V_at (base := w.heap.size) (Kd.N_V HO_6.out)).2.2
                                    have hcut54 := cut_to (P := Try.prog) 40 22 .i64 Try.underlying40 hi054 (some ad285) x6_1.length co50 (ji36) (of_decide_eq_true (by first | (with_reducible assumption) | assumption)) q54 hroom54
                                    have hr54 := Kd.F_take (m := ((ji36) : Int).toNat) hC54 (by omega)
                                    have hy54 : y293.length = ((ji36) : Int).toNat := (by rw [Ny293.out, List.length_take]; omega)
                                    rw [← Ny293.out] at hr54
                                    rw [← hy54] at hcut54
                                    have HO297 := Aside0.mk (show Kd.V (Kd.slice 47 k47) 22 _ w.heap.size _ (.slice (some ad285) y293.length co50) y293 from Kd.V_mk (by omega) hr54)
                                    have HC297 := Aside0.mk (show y293.length ≤ co50 from by omega)
                                    clear hr54 hC54 hroom54 hi054 hsz54
                                    have KY54 := Aside0.mk hy54
                                    clear hy54
                                    replace q54 := eq_true q54
                                    have q55 : ((ji44) : Int) ≤ ((x6_1.length : Int) : Int) := of_decide_eq_true (by first | (with_reducible assumption) | assumption)
                                    obtain ⟨i055, hi055, _, hsz55, _⟩ := info_parts info22
                                    have hroom55 : x6_1.length ≤ co50 := (Kd.N_reads' HO_6.out).2.1
                                    have hC55 : Kd.F (Kd.slice 47 k47) _ _ (some ad285) x6_1.length x6_1 := (Kd.V_at (base := w.heap.size) (Kd.N_V HO_6.out)).2.2
                                    have q055 : (0 : Int) ≤ ((ji44) : Int) := of_decide_eq_true (by first | (with_reducible assumption) | assumption)
                                    have hcut55 := cut_from (P := Try.prog) 40 22 .i64 Try.underlying40 hi055 1 hsz55 (some ad285) x6_1.length co50 (ji44) q055 q55
                                    have hr55 := Kd.F_cut (m := ((ji44) : Int).toNat) (c := co50) hC55 (by omega) hroom55
                                    obtain ⟨A55, hA55⟩ : ∃ A1, A1 = (if co50 = ((ji44) : Int).toNat then (some ad285) else ((some ad285) : Option Addr).map (·.add (((ji44) : Int).toNat * 1))) := ⟨_, rfl⟩
                                    obtain ⟨c55, hc55⟩ : ∃ c1, c1 = co50 - ((ji44) : Int).toNat := ⟨_, rfl⟩
                                    have hy55 : y301.length = x6_1.length - ((ji44) : Int).toNat := (by rw [Ny301.out, List.length_drop] <;> omega)
                                    rw [show (x6_1).drop ((ji44) : Int).toNat = y301 from Ny301.out.symm] at hr55
                                    replace hr55 : Kd.F (Kd.slice 47 k47) _ _ A55 y301.length y301 := (by rw [hA55]; exact hr55)
                                    rw [← hy55, ← hA55, ← hc55] at hcut55
                                    have HO305 := Aside0.mk (show Kd.V (Kd.slice 47 k47) 22 _ w.heap.size _ (.slice A55 y301.length c55) y301 from Kd.V_mk (by rw [hy55, hc55]; exact Nat.sub_le_sub_right hroom55 _) hr55)
                                    have HC305 := Aside0.mk (show y301.length ≤ c55 from by rw [hy55, hc55]; exact Nat.sub_le_sub_right hroom55 _)
                                    clear hr55 hC55 hroom55 hi055 hsz55 hc55
                                    have KY55 := Aside0.mk hy55
                                    have KA55 := Aside0.mk hA55
                                    clear hy55 hA55
                                    replace q55 := eq_true q55
                                    refine start_ (n := 11) (S := fun w' => True) (ds := []) #[false, false, false, false, false, false, false, false, false, false, false] (by kernel_rfl) rfl rfl trivial (fun hHeld => ?_); refine with_tabW reeflaw09_ExtentMoves.tab18 reeflaw09_ExtentMoves.bits18 (fun HT_ HW_ => ?_)
                                    generalize w52.drew = w53 at HO_5 HO_6 HL285_0 HO289 HR285_0 HB HO297 HO305 hHeld ⊢
                                    refine pure_ (i := 1) (N := some 78) (v := ?_) (a' := ?_) #[false, true, false, false, false, false, false, false, false, false, false] rfl rfl (any_of HT_.out (by kernel_rfl)) (fun _ _ _ h => h) (Or.inl ⟨by rfl, ?_⟩) ?_ ?_
                                    rotate_left
                                    · intro w'
                                      go_simp
                                      with_reducible rfl
                                    rotate_left
                                    · simp only [Act.put, List.setIfInBounds_toArray, List.set_cons_zero, List.set_cons_succ, i64_w, i32_w]
                                      rfl
                                    refine pure_ (i := 2) (N := some 79) (v := ?_) (a' := ?_) #[false, true, true, false, false, false, false, false, false, false, false] rfl rfl (any_of HT_.out (by kernel_rfl)) (fun _ _ _ h => h) (Or.inl ⟨by rfl, ?_⟩) ?_ ?_
                                    rotate_left
                                    · intro w'
                                      go_simp
                                      with_reducible rfl
                                    rotate_left
                                    · simp only [Act.put, List.setIfInBounds_toArray, List.set_cons_zero, List.set_cons_succ, i64_w, i32_w]
                                      rfl
                                    refine pure_ (i := 3) (N := some 80) (v := ?_) (a' := ?_) #[false, true, true, true, false, false, false, false, false, false, false] rfl rfl (any_of HT_.out (by kernel_rfl)) (fun _ _ _ h => h) (Or.inl ⟨by rfl, ?_⟩) ?_ ?_
                                    rotate_left
                                    · intro w'
                                      go_simp
                                      with_reducible rfl
                                    rotate_left
                                    · simp only [Act.put, List.setIfInBounds_toArray, List.set_cons_zero, List.set_cons_succ, i64_w, i32_w]
                                      rfl
                                    refine pure_ (i := 5) (N := some 82) (v := ?_) (a' := ?_) #[false, true, true, true, false, true, false, false, false, false, false] rfl rfl (any_of HT_.out (by kernel_rfl)) (fun _ _ _ h => h) (Or.inl ⟨by rfl, ?_⟩) ?_ ?_
                                    rotate_left
                                    · intro w'
                                      go_simp
                                      with_reducible rfl
                                    rotate_left
                                    · simp only [Act.put, List.setIfInBounds_toArray, List.set_cons_zero, List.set_cons_succ, i64_w, i32_w]
                                      rfl
                                    refine pure_ (i := 6) (N := some 83) (v := ?_) (a' := ?_) #[false, true, true, true, false, true, true, false, false, false, false] rfl rfl (any_of HT_.out (by kernel_rfl)) (fun _ _ _ h => h) (Or.inl ⟨by rfl, ?_⟩) ?_ ?_
                                    rotate_left
                                    · intro w'
                                      go_simp
                                      with_reducible rfl
                                    rotate_left
                                    · simp only [Act.put, List.setIfInBounds_toArray, List.set_cons_zero, List.set_cons_succ, i64_w, i32_w]
                                      rfl
                                    refine pure_ (i := 7) (N := some 84) (v := ?_) (a' := ?_) #[false, true, true, true, false, true, true, true, false, false, false] rfl rfl (any_of HT_.out (by kernel_rfl)) (fun _ _ _ h => h) (Or.inl ⟨by rfl, ?_⟩) ?_ ?_
                                    rotate_left
                                    · intro w'
                                      go_simp
                                      with_reducible rfl
                                    rotate_left
                                    · simp only [Act.put, List.setIfInBounds_toArray, List.set_cons_zero, List.set_cons_succ, i64_w, i32_w]
                                      rfl
                                    refine pure_ (i := 8) (N := some 85) (v := ?_) (a' := ?_) #[false, true, true, true, false, true, true, true, true, false, false] rfl rfl (any_of HT_.out (by kernel_rfl)) (fun _ _ _ h => h) (Or.inl ⟨by rfl, ?_⟩) ?_ ?_
                                    rotate_left
                                    · intro w'
                                      go_simp
                                      with_reducible rfl
                                    rotate_left
                                    · simp only [Act.put, List.setIfInBounds_toArray, List.set_cons_zero, List.set_cons_succ, i64_w, i32_w]
                                      rfl
                                    refine one_ (i := 0) (N := some 77) #[true, true, true, true, false, true, true, true, true, false, false] rfl rfl (one_of HT_.out (by kernel_rfl)) (by decide) (fun K hK => ?_)
                                    refine Kd.N_lit_step (Kd.slice 47 k47) _ 22 ?hg (N' := 77) ?hd (xs := ([] : List (List (S47)))) (inner := []) (ok := (fun k_ => some k_ ≠ (.slice Ao51 x5_1.length co51 : Value).ownBlock ∧ some k_ ≠ (.slice (some ad285) x6_1.length co50 : Value).ownBlock ∧ some k_ ≠ (v288 : Value).ownBlock)) (okp := (fun k_ => some k_ ≠ (.slice Ao51 x5_1.length co51 : Value).ownBlock ∧ some k_ ≠ (.slice (some ad285) x6_1.length co50 : Value).ownBlock ∧ some k_ ≠ (v288 : Value).ownBlock)) ?hr ?hp (fun _ hk => hk) ((show ∀ k_, w53.heap.size ≤ k_ → (fun k_ => some k_ ≠ (.slice Ao51 x5_1.length co51 : Value).ownBlock ∧ some k_ ≠ (.slice (some ad285) x6_1.length co50 : Value).ownBlock ∧ some k_ ≠ (v288 : Value).ownBlock) k_ from fun k_ hk => ⟨Kd.fresh' (Kd.R_lt (by (with_reducible repeat (first | apply Kd.R_alloc | apply Kd.R_drewN | apply Kd.R_drew)); exact HO_5.out)) k_ hk, Kd.fresh' (Kd.N_lt (by (with_reducible repeat (first | apply Kd.N_alloc | apply Kd.N_drewN | apply Kd.N_drew)); exact HO_6.out)) k_ hk, Kd.fresh' (Kd.R_lt (by (with_reducible repeat (first | apply Kd.R_alloc | apply Kd.R_drewN | apply Kd.R_drew)); exact HO289.out)) k_ hk⟩) _ (Nat.le_refl _)) (Below.refl _ _) (Nat.le_refl _) (by simp) ?_; (case hd => rfl); (case hg => rfl); (case hr => first | (go_simp; done) | (go_simp; rfl)); (case hp => exact (Reps.none _ _))
                                    intro v291 w56 ho57 hb hg_ hnew_
                                    clear hg_ hnew_
                                    (first | rw [← Ny290.out] at ho57 | (simp only [Int.reduceToNat] at ho57; rw [← Ny290.out] at ho57))
                                    have n0_ := Aside0.mk (Kd.R_below (by (with_reducible repeat (first | apply Kd.R_alloc | apply Kd.R_drewN | apply Kd.R_drew)); exact HO_5.out) hb)
                                    have n1_ := Aside0.mk (Kd.N_elder' (by (with_reducible repeat (first | apply Kd.N_alloc | apply Kd.N_drewN | apply Kd.N_drew)); exact HO_6.out) (Kd.N_base ho57) hb)
                                    have n2_ := Aside0.mk (Kd.V_elder' (by (with_reducible repeat (first | apply Kd.V_alloc | apply Kd.V_drewN | apply Kd.V_drew)); exact HL285_0.out) (Kd.N_base ho57) hb)
                                    have n3_ := Aside0.mk (Kd.R_below (by (with_reducible repeat (first | apply Kd.R_alloc | apply Kd.R_drewN | apply Kd.R_drew)); exact HO289.out) hb)
                                    have n4_ := Aside0.mk (Kd.V_elder' (by (with_reducible repeat (first | apply Kd.V_alloc | apply Kd.V_drewN | apply Kd.V_drew)); exact HO297.out) (Kd.N_base ho57) hb)
                                    have n5_ := Aside0.mk (Kd.V_elder' (by (with_reducible repeat (first | apply Kd.V_alloc | apply Kd.V_drewN | apply Kd.V_drew)); exact HO305.out) (Kd.N_base ho57) hb)
                                    have n6_ := Aside0.mk (Kd.N_lower ho57 (below_size (by repeat (first | (with_reducible first | exact HB.out | apply below_alloc | apply pw_below_drewN | apply below_drew1) | exact HB.out))))
                                    have n7_ := Aside0.mk (Kd.C_below (by repeat (first | (with_reducible exact HR285_0.out) | (with_reducible refine Kd.C_alloc ?_ _) | (with_reducible refine Kd.C_drewN ?_ _) | (with_reducible refine Kd.C_drew ?_) | exact HR285_0.out)) hb)
                                    have n8_ := Aside0.mk (below_step (by repeat (first | (with_reducible first | exact HB.out | apply below_alloc | apply pw_below_drewN | apply below_drew1) | exact HB.out)) hb)
                                    clear HO_5
                                    clear HO_6
                                    clear HL285_0
                                    clear HO289
                                    clear HO297
                                    clear HO305
                                    clear HR285_0
                                    clear HB
                                    have HO_5 := n0_
                                    have HO_6 := n1_
                                    have HL285_0 := n2_
                                    have HO289 := n3_
                                    have HO297 := n4_
                                    have HO305 := n5_
                                    have HO292 := n6_
                                    have HR285_0 := n7_
                                    have HB := n8_
                                    clear n0_ n1_ n2_ n3_ n4_ n5_ n6_ n7_ n8_
                                    clear hb ho57
                                    refine hK.out _ _ trivial (fun hHeld => ?_)
                                    clear hK K
                                    refine norm_ (a' := ?_) ?_ ?_
                                    rotate_left
                                    · show Act.put _ (some 77) _ = _
                                      simp only [Act.put, List.setIfInBounds_toArray, List.set_cons_zero, List.set_cons_succ, i64_w, i32_w]
                                      rfl
                                    refine one_ (i := 4) (N := some 81) #[true, true, true, true, true, true, true, true, true, false, false] rfl rfl (one_of HT_.out (by kernel_rfl)) (by decide) (fun K hK => ?_)
                                    refine Kd.N_append_rows_step (Kd.slice 47 k47) (w0 := w) w.heap.size (by rfl) (.tmp 77) (.tmp 80) 40 22 (.slice none 0 0) 24 rfl Try.underlying40 info22 rfl (by decide) (by omega) v291 y290 y293 _ _ _ (fun k_ => some k_ ≠ (.slice Ao51 x5_1.length co51 : Value).ownBlock ∧ some k_ ≠ (v288 : Value).ownBlock) (fun k_ => ((fun k_ => some k_ ≠ (.slice Ao51 x5_1.length co51 : Value).ownBlock ∧ some k_ ≠ (v288 : Value).ownBlock)) k_ ∧ some k_ ≠ (v291 : Value).ownBlock) rfl rfl ?aO ?aR (fun _ hk => hk) ?aF ?aB ?aS ?aL ?_
                                    (case aR => exact (by skip; exact Kd.V_F (Kd.V_mono (ok' := (fun k_ => ((fun k_ => some k_ ≠ (.slice Ao51 x5_1.length co51 : Value).ownBlock ∧ some k_ ≠ (v288 : Value).ownBlock)) k_ ∧ some k_ ≠ (v291 : Value).ownBlock)) (HO297.out) (fun k_ hk => ⟨⟨hk.1.1, hk.1.2⟩, hk.2⟩))))
                                    (case aB => exact (by repeat (first | (with_reducible first | exact HB.out | apply below_alloc | apply pw_below_drewN | apply below_drew1) | exact HB.out)))
                                    (case aF => exact (fun k_ hk => ⟨Kd.fresh' (Kd.R_lt (by (with_reducible repeat (first | apply Kd.R_alloc | apply Kd.R_drewN | apply Kd.R_drew)); exact HO_5.out)) k_ hk, Kd.fresh' (Kd.R_lt (by (with_reducible repeat (first | apply Kd.R_alloc | apply Kd.R_drewN | apply Kd.R_drew)); exact HO289.out)) k_ hk⟩))
                                    (case aO => exact (by (with_reducible repeat (first | apply Kd.N_alloc | apply Kd.N_drewN | apply Kd.N_drew)); exact Kd.N_mono HO292.out (fun _ hk => ⟨hk.1, hk.2.2⟩)))
                                    (case aS => exact (below_size (by repeat (first | (with_reducible first | exact HB.out | apply below_alloc | apply pw_below_drewN | apply below_drew1) | exact HB.out))))
                                    (case aL => have := LMc43.out; omega)
                                    intro v299 w58 ho hb hg hat
                                    rw [← Ny298.out] at ho
                                    have n0_ := Aside0.mk (Kd.R_over' (by (with_reducible repeat (first | apply Kd.R_alloc | apply Kd.R_drewN | apply Kd.R_drew)); exact HO_5.out) (Kd.N_typed (by (with_reducible repeat (first | apply Kd.N_alloc | apply Kd.N_drewN | apply Kd.N_drew)); exact HO292.out)) (by decide) hg)
                                    have n1_ := Aside0.mk (Kd.N_afterv (ok := (fun k_ => some k_ ≠ (.slice Ao51 x5_1.length co51 : Value).ownBlock ∧ some k_ ≠ (v288 : Value).ownBlock)) (by (with_reducible repeat (first | apply Kd.N_alloc | apply Kd.N_drewN | apply Kd.N_drew)); exact HO_6.out) hg hat)
                                    have n2_ := Aside0.mk (Kd.V_afterv (ok := (fun k_ => some k_ ≠ (.slice Ao51 x5_1.length co51 : Value).ownBlock ∧ some k_ ≠ (.slice (some ad285) x6_1.length co50 : Value).ownBlock ∧ some k_ ≠ (v288 : Value).ownBlock)) (by (with_reducible repeat (first | apply Kd.V_alloc | apply Kd.V_drewN | apply Kd.V_drew)); exact Kd.V_mono HL285_0.out (fun _ hk => ⟨⟨hk.1.1.1, ⟨hk.1.1.2, hk.1.2⟩⟩, hk.2⟩)) hg hat)
                                    have n3_ := Aside0.mk (Kd.R_over' (by (with_reducible repeat (first | apply Kd.R_alloc | apply Kd.R_drewN | apply Kd.R_drew)); exact HO289.out) (Kd.N_typed (by (with_reducible repeat (first | apply Kd.N_alloc | apply Kd.N_drewN | apply Kd.N_drew)); exact HO292.out)) (by decide) hg)
                                    have n4_ := Aside0.mk (Kd.V_afterv (ok := (fun k_ => some k_ ≠ (.slice Ao51 x5_1.length co51 : Value).ownBlock ∧ some k_ ≠ (v288 : Value).ownBlock)) (by (with_reducible repeat (first | apply Kd.V_alloc | apply Kd.V_drewN | apply Kd.V_drew)); exact HO297.out) hg hat)
                                    have n5_ := Aside0.mk (Kd.V_afterv (ok := (fun k_ => some k_ ≠ (.slice Ao51 x5_1.length co51 : Value).ownBlock ∧ some k_ ≠ (v288 : Value).ownBlock)) (by (with_reducible repeat (first | apply Kd.V_alloc | apply Kd.V_drewN | apply Kd.V_drew)); exact HO305.out) hg hat)
                                    have n6_ := Aside0.mk (hb)
                                    have n7_ := Aside0.mk (ho)
                                    clear HO_5
                                    clear HO_6
                                    clear HL285_0
                                    clear HO289
                                    clear HO297
                                    clear HO305
                                    clear HB
                                    clear HO292
                                    have HO_5 := n0_
                                    have HO_6 := n1_
                                    have HL285_0 := n2_
                                    have HO289 := n3_
                                    have HO297 := n4_
                                    have HO305 := n5_
                                    have HB := n6_
                                    have HO300 := n7_
                                    clear n0_ n1_ n2_ n3_ n4_ n5_ n6_ n7_
                                    clear ho hb hg hat
                                    refine hK.out _ _ trivial (fun hHeld => ?_)
                                    clear hK K
                                    refine norm_ (a' := ?_) ?_ ?_
                                    rotate_left
                                    · show Act.put _ (some 81) _ = _
                                      simp only [Act.put, List.setIfInBounds_toArray, List.set_cons_zero, List.set_cons_succ, i64_w, i32_w]
                                      rfl
                                    refine one_ (i := 9) (N := some 86) #[true, true, true, true, true, true, true, true, true, true, false] rfl rfl (one_of HT_.out (by kernel_rfl)) (by decide) (fun K hK => ?_)
                                    refine Kd.N_append_rows_step (Kd.slice 47 k47) (w0 := w) w.heap.size (by rfl) (.tmp 81) (.tmp 85) 40 22 (.slice none 0 0) 24 rfl Try.underlying40 info22 rfl (by decide) (by omega) v299 y298 y301 _ _ _ (fun k_ => some k_ ≠ (.slice Ao51 x5_1.length co51 : Value).ownBlock ∧ some k_ ≠ (v288 : Value).ownBlock) (fun k_ => ((fun k_ => some k_ ≠ (.slice Ao51 x5_1.length co51 : Value).ownBlock ∧ some k_ ≠ (v288 : Value).ownBlock)) k_ ∧ some k_ ≠ (v299 : Value).ownBlock) rfl rfl ?aO ?aR (fun _ hk => hk) ?aF ?aB ?aS ?aL ?_
                                    (case aR => exact (by skip; exact Kd.V_F (Kd.V_mono (ok' := (fun k_ => ((fun k_ => some k_ ≠ (.slice Ao51 x5_1.length co51 : Value).ownBlock ∧ some k_ ≠ (v288 : Value).ownBlock)) k_ ∧ some k_ ≠ (v299 : Value).ownBlock)) (HO305.out) (fun k_ hk => ⟨⟨hk.1.1, hk.1.2⟩, hk.2⟩))))
                                    (case aB => exact (by repeat (first | (with_reducible first | exact HB.out | apply below_alloc | apply pw_below_drewN | apply below_drew1) | exact HB.out)))
                                    (case aF => exact (fun k_ hk => ⟨Kd.fresh' (Kd.R_lt (by (with_reducible repeat (first | apply Kd.R_alloc | apply Kd.R_drewN | apply Kd.R_drew)); exact HO_5.out)) k_ hk, Kd.fresh' (Kd.R_lt (by (with_reducible repeat (first | apply Kd.R_alloc | apply Kd.R_drewN | apply Kd.R_drew)); exact HO289.out)) k_ hk⟩))
                                    (case aO => exact (by (with_reducible repeat (first | apply Kd.N_alloc | apply Kd.N_drewN | apply Kd.N_drew)); exact HO300.out))
                                    (case aS => exact (below_size (by repeat (first | (with_reducible first | exact HB.out | apply below_alloc | apply pw_below_drewN | apply below_drew1) | exact HB.out))))
                                    (case aL => have := LMc47.out; omega)
                                    intro v307 w59 ho hb hg hat
                                    rw [← Ny306.out] at ho
                                    have n0_ := Aside0.mk (Kd.R_over' (by (with_reducible repeat (first | apply Kd.R_alloc | apply Kd.R_drewN | apply Kd.R_drew)); exact HO_5.out) (Kd.N_typed (by (with_reducible repeat (first | apply Kd.N_alloc | apply Kd.N_drewN | apply Kd.N_drew)); exact HO300.out)) (by decide) hg)
                                    have n1_ := Aside0.mk (Kd.N_afterv (ok := (fun k_ => some k_ ≠ (.slice Ao51 x5_1.length co51 : Value).ownBlock ∧ some k_ ≠ (v288 : Value).ownBlock)) (by (with_reducible repeat (first | apply Kd.N_alloc | apply Kd.N_drewN | apply Kd.N_drew)); exact HO_6.out) hg hat)
                                    have n2_ := Aside0.mk (Kd.V_afterv (ok := (fun k_ => some k_ ≠ (.slice Ao51 x5_1.length co51 : Value).ownBlock ∧ some k_ ≠ (.slice (some ad285) x6_1.length co50 : Value).ownBlock ∧ some k_ ≠ (v288 : Value).ownBlock)) (by (with_reducible repeat (first | apply Kd.V_alloc | apply Kd.V_drewN | apply Kd.V_drew)); exact HL285_0.out) hg hat)
                                    have n3_ := Aside0.mk (Kd.R_over' (by (with_reducible repeat (first | apply Kd.R_alloc | apply Kd.R_drewN | apply Kd.R_drew)); exact HO289.out) (Kd.N_typed (by (with_reducible repeat (first | apply Kd.N_alloc | apply Kd.N_drewN | apply Kd.N_drew)); exact HO300.out)) (by decide) hg)
                                    have n4_ := Aside0.mk (Kd.V_afterv (ok := (fun k_ => some k_ ≠ (.slice Ao51 x5_1.length co51 : Value).ownBlock ∧ some k_ ≠ (v288 : Value).ownBlock)) (by (with_reducible repeat (first | apply Kd.V_alloc | apply Kd.V_drewN | apply Kd.V_drew)); exact HO297.out) hg hat)
                                    have n5_ := Aside0.mk (Kd.V_afterv (ok := (fun k_ => some k_ ≠ (.slice Ao51 x5_1.length co51 : Value).ownBlock ∧ some k_ ≠ (v288 : Value).ownBlock)) (by (with_reducible repeat (first | apply Kd.V_alloc | apply Kd.V_drewN | apply Kd.V_drew)); exact HO305.out) hg hat)
                                    have n6_ := Aside0.mk (hb)
                                    have n7_ := Aside0.mk (ho)
                                    clear HO_5
                                    clear HO_6
                                    clear HL285_0
                                    clear HO289
                                    clear HO297
                                    clear HO305
                                    clear HB
                                    clear HO300
                                    have HO_5 := n0_
                                    have HO_6 := n1_
                                    have HL285_0 := n2_
                                    have HO289 := n3_
                                    have HO297 := n4_
                                    have HO305 := n5_
                                    have HB := n6_
                                    have HO308 := n7_
                                    clear n0_ n1_ n2_ n3_ n4_ n5_ n6_ n7_
                                    clear ho hb hg hat
                                    refine hK.out _ _ trivial (fun hHeld => ?_)
                                    clear hK K
                                    refine norm_ (a' := ?_) ?_ ?_
                                    rotate_left
                                    · show Act.put _ (some 86) _ = _
                                      simp only [Act.put, List.setIfInBounds_toArray, List.set_cons_zero, List.set_cons_succ, i64_w, i32_w]
                                      rfl
                                    refine pure_ (i := 10) (N := some 6) (v := ?_) (a' := ?_) #[true, true, true, true, true, true, true, true, true, true, true] rfl rfl (any_of HT_.out (by kernel_rfl)) (fun _ _ _ h => h) (Or.inl ⟨by rfl, ?_⟩) ?_ ?_
                                    rotate_left
                                    · intro w'
                                      go_simp
                                      with_reducible rfl
                                    rotate_left
                                    · simp only [Act.put, List.setIfInBounds_toArray, List.set_cons_zero, List.set_cons_succ, i64_w, i32_w]
                                      rfl
                                    refine done_ (done_of HT_.out (by kernel_rfl)) ?_
                                    obtain ⟨Ao60, co60, eo60⟩ := Kd.R_slice HO289.out
                                    subst eo60
                                    try go_wp2_with (first | ((with_reducible refine gate_callee (f := 6) rfl ?_); refine goesL_ (some 89) rfl rfl Try.func6 (by kernel_rfl) rfl #[.int .i64 (wrap64 (1 + (wrap64 (Int.tmod (IntKind.u64.wrap (a0)) 200)))), .slice Ao60 t286.length co60] rfl (by (try simp only [List.map_toArray, List.map_cons, List.map_nil]); first | done | rfl | (simp only [List.length_drop, List.length_take]; rfl)) ?_; (with_reducible refine (extent_Fit.calls k1 (wrap64 (1 + (wrap64 (Int.tmod (IntKind.u64.wrap (a0)) 200)))) _ _ t286 true _ ?side1 ?side2 A48.out).mono ?_); (case side1 => repeat (first | exact (Kd.R_reads' HO289.out).2.2 | (with_reducible refine Kd.C_alloc ?_ _) | (with_reducible refine Kd.C_drewN ?_ _) | (with_reducible refine Kd.C_drew ?_))); (case side2 => exact (Kd.R_reads' HO289.out).2.1); rintro e w61 ⟨rfl, hb⟩; refine ⟨_, rfl, ?_⟩; have n0_ := Aside0.mk (Kd.R_below (by (with_reducible repeat (first | apply Kd.R_alloc | apply Kd.R_drewN | apply Kd.R_drew)); exact HO_5.out) hb); have n1_ := Aside0.mk (Kd.N_below (by (with_reducible repeat (first | apply Kd.N_alloc | apply Kd.N_drewN | apply Kd.N_drew)); exact HO_6.out) hb); have n2_ := Aside0.mk (Kd.V_below (by (with_reducible repeat (first | apply Kd.V_alloc | apply Kd.V_drewN | apply Kd.V_drew)); exact HL285_0.out) hb); have n3_ := Aside0.mk (Kd.R_below (by (with_reducible repeat (first | apply Kd.R_alloc | apply Kd.R_drewN | apply Kd.R_drew)); exact HO289.out) hb); have n4_ := Aside0.mk (Kd.V_below (by (with_reducible repeat (first | apply Kd.V_alloc | apply Kd.V_drewN | apply Kd.V_drew)); exact HO297.out) hb); have n5_ := Aside0.mk (Kd.V_below (by (with_reducible repeat (first | apply Kd.V_alloc | apply Kd.V_drewN | apply Kd.V_drew)); exact HO305.out) hb); have n6_ := Aside0.mk (Kd.N_below (by (with_reducible repeat (first | apply Kd.N_alloc | apply Kd.N_drewN | apply Kd.N_drew)); exact HO308.out) hb); have n7_ := Aside0.mk (below_step (by repeat (first | (with_reducible first | exact HB.out | apply below_alloc | apply pw_below_drewN | apply below_drew1) | exact HB.out)) hb); clear HO_5; clear HO_6; clear HL285_0; clear HO289; clear HO297; clear HO305; clear HO308; clear HB; have HO_5 := n0_; have HO_6 := n1_; have HL285_0 := n2_; have HO289 := n3_; have HO297 := n4_; have HO305 := n5_; have HO308 := n6_; have HB := n7_; clear n0_ n1_ n2_ n3_ n4_ n5_ n6_ n7_; (try clear hb); (try clear hb2); (try clear hk); (try clear hi)))
                                    go_roundg k1
                                    case measure => have := HK1.out; omega
                                    case rel => exact ⟨(t286), (y306), (wrap64 (x33_1 + 1)), (by first | rfl | (simp; done) | (simp [*]; done)), H', ⟨by have := HK1.out; omega⟩, ⟨by (with_reducible repeat (first | apply Kd.R_alloc | apply Kd.R_drewN | apply Kd.R_drew)); exact Kd.R_mono HO289.out (fun _ hk => trivial)⟩, ⟨by (with_reducible repeat (first | apply Kd.N_alloc | apply Kd.N_drewN | apply Kd.N_drew)); exact Kd.N_mono HO308.out (fun _ hk => hk.2)⟩, ⟨by repeat (first | (with_reducible first | exact HB.out | apply below_alloc | apply pw_below_drewN | apply below_drew1) | exact HB.out)⟩⟩
                                  · replace c49 := Bool.eq_false_iff.mpr c49
                                    subst c49
                                    have H1 : (some false) = some r := by rw [if_neg (show ¬ (false = true) by decide)] at H; exact H
                                    clear H
                                    have H := H1
                                    clear H1
                                    obtain rfl := Option.some.inj H
                                    have p272 : 0 ≤ (x33_1 : Int) := of_decide_eq_true (by first | (with_reducible assumption) | assumption)
                                    have q272 : x33_1 < (l1.length : Int) := of_decide_eq_true (by first | (with_reducible assumption) | assumption)
                                    obtain ⟨ad272, e272, hx272_0⟩ := Kd.at_int HR1.out x33_1 p272 q272
                                    cases e272
                                    replace hx272_0 := (HB.out.cell (World.block_lt_of_cell? w _ hx272_0)).trans hx272_0
                                    replace p272 := eq_true p272
                                    replace q272 := eq_true q272
                                    obtain ⟨Ao62, co62, eo62⟩ := Kd.N_slice HO_6.out
                                    subst eo62
                                    have p285 : 0 ≤ ((ji36) : Int) := of_decide_eq_true (by first | (with_reducible assumption) | assumption)
                                    have q285 : (ji36) < (x6_1.length : Int) := of_decide_eq_true (by first | (with_reducible assumption) | assumption)
                                    obtain ⟨ad285, A285_0, c285_0, e285, hx285_0, hl285_0, hi285_0⟩ := at_L3 (Kd.N_reads' HO_6.out).2.2 (ji36) p285 q285
                                    cases e285
                                    obtain ⟨ce285, hce285, hMe285, hcc285⟩ := Kd.N_get HO_6.out [] (ji36) p285 (by first | exact q285 | exact of_decide_eq_true (by first | (with_reducible assumption) | assumption) | (have e_ := (Kd.N_reads' HO_6.out).1; omega))
                                    obtain ⟨ua285_0, uc285_0, rfl, ul285_0, ge285_0⟩ := Kd.FK_slice_open hMe285
                                    have hv285_0 := hcc285 0 _ rfl
                                    rw [Nat.add_zero, show ((Kd.slice 47 k47)).sz = 1 from rfl, Nat.mul_one] at hv285_0
                                    replace hv285_0 := Option.some.inj (hv285_0.symm.trans hx285_0)
                                    injection hv285_0 with hva_ hvn_ hvc_
                                    rw [hva_] at ge285_0
                                    rw [hvc_] at ul285_0
                                    have HL285_0 := Aside0.mk (show Kd.V k47 47 _ w.heap.size _ _ (rd_L3 x6_1 (ji36)) from Kd.V_mk ul285_0 ge285_0)
                                    clear hva_ hvn_ hvc_ ge285_0 ul285_0
                                    clear hcc285 hce285
                                    have HR285_0 := Aside0.mk hi285_0
                                    have HC285_0 := Aside0.mk hl285_0
                                    clear hi285_0 hl285_0
                                    replace p285 := eq_true p285
                                    replace q285 := eq_true q285
                                    obtain ⟨Ao63, co63, eo63⟩ := Kd.R_slice HO_5.out
                                    subst eo63
                                    try go_wp2_with (first | ((with_reducible refine gate_callee (f := 15) rfl ?_); refine goesL_ (some 71) rfl rfl Try.func15 (by kernel_rfl) rfl #[.int .i64 (wrap64 (1 + (wrap64 (Int.tmod (IntKind.u64.wrap (a0)) 200)))), .slice Ao63 x5_1.length co63, .slice A285_0 (rd_L3 x6_1 (ji36)).length c285_0] rfl (by (try simp only [List.map_toArray, List.map_cons, List.map_nil]); first | done | (simp only [hji36]; rfl) | rfl | (simp only [List.length_drop, List.length_take]; rfl)) ?_; (with_reducible refine (extent_Give.calls (wrap64 (1 + (wrap64 (Int.tmod (IntKind.u64.wrap (a0)) 200)))) _ _ x5_1 _ _ (rd_L3 x6_1 (ji36)) t286 t287 _ ?side1 ?side2 ?side3 ?side4 A39.out).mono ?_); (case side1 => repeat (first | exact (Kd.R_reads' HO_5.out).2.2 | (with_reducible refine Kd.C_alloc ?_ _) | (with_reducible refine Kd.C_drewN ?_ _) | (with_reducible refine Kd.C_drew ?_))); (case side2 => exact (Kd.R_reads' HO_5.out).2.1); (case side3 => repeat (first | exact (by repeat (first | (with_reducible exact HR285_0.out) | (with_reducible refine Kd.C_alloc ?_ _) | (with_reducible refine Kd.C_drewN ?_ _) | (with_reducible refine Kd.C_drew ?_) | exact HR285_0.out)) | (with_reducible refine Kd.C_alloc ?_ _) | (with_reducible refine Kd.C_drewN ?_ _) | (with_reducible refine Kd.C_drew ?_))); (case side4 => exact HC285_0.out); rintro e w64 ⟨v288, rfl, ho0, hb⟩; refine ⟨_, rfl, ?_⟩; have n0_ := Aside0.mk (Kd.R_elder' (by (with_reducible repeat (first | apply Kd.R_alloc | apply Kd.R_drewN | apply Kd.R_drew)); exact HO_5.out) (Kd.R_base ho0) hb); have n1_ := Aside0.mk (Kd.N_elder' (by (with_reducible repeat (first | apply Kd.N_alloc | apply Kd.N_drewN | apply Kd.N_drew)); exact HO_6.out) (Kd.R_base ho0) hb); have n2_ := Aside0.mk (Kd.V_elder' (by (with_reducible repeat (first | apply Kd.V_alloc | apply Kd.V_drewN | apply Kd.V_drew)); exact HL285_0.out) (Kd.R_base ho0) hb); have n3_ := Aside0.mk (Kd.R_lower (Kd.R_new' ho0 (Kd.R_lt (by (with_reducible repeat (first | apply Kd.R_alloc | apply Kd.R_drewN | apply Kd.R_drew)); exact HO_5.out))) (below_size (by repeat (first | (with_reducible first | exact HB.out | apply below_alloc | apply pw_below_drewN | apply below_drew1) | exact HB.out)))); have n4_ := Aside0.mk (Kd.C_below (by repeat (first | (with_reducible exact HR285_0.out) | (with_reducible refine Kd.C_alloc ?_ _) | (with_reducible refine Kd.C_drewN ?_ _) | (with_reducible refine Kd.C_drew ?_) | exact HR285_0.out)) hb); have n5_ := Aside0.mk (below_step (by repeat (first | (with_reducible first | exact HB.out | apply below_alloc | apply pw_below_drewN | apply below_drew1) | exact HB.out)) hb); clear HO_5; clear HO_6; clear HL285_0; clear HR285_0; clear HB; have HO_5 := n0_; have HO_6 := n1_; have HL285_0 := n2_; have HO289 := n3_; have HR285_0 := n4_; have HB := n5_; clear n0_ n1_ n2_ n3_ n4_ n5_; (try clear hb); (try clear hb2); (try clear hk); (try clear hi); (try clear ho0)))
                                    have n0_ := Aside0.mk (Kd.R_drew HO_5.out)
                                    have n1_ := Aside0.mk (Kd.N_drew HO_6.out)
                                    have n2_ := Aside0.mk (Kd.V_drew HL285_0.out)
                                    have n3_ := Aside0.mk (Kd.R_drew HO289.out)
                                    have n4_ := Aside0.mk (Kd.C_drew HR285_0.out)
                                    have n5_ := Aside0.mk (below_drew1 HB.out)
                                    clear HO_5
                                    clear HO_6
                                    clear HL285_0
                                    clear HO289
                                    clear HR285_0
                                    clear HB
                                    have HO_5 := n0_
                                    have HO_6 := n1_
                                    have HL285_0 := n2_
                                    have HO289 := n3_
                                    have HR285_0 := n4_
                                    have HB := n5_
                                    clear n0_ n1_ n2_ n3_ n4_ n5_
                                    have q66 : ((ji36) : Int) ≤ ((x6_1.length : Int) : Int) := of_decide_eq_true (by first | (with_reducible assumption) | assumption)
                                    obtain ⟨i066, hi066, _, hsz66, _⟩ := info_parts info22
                                    have hroom66 : x6_1.length ≤ co62 := (Kd.N_reads' HO_6.out).2.1
                                    have hC66 : Kd.F (Kd.slice 47 k47) _ _ (some ad285) x6_1.length x6_1 := (Kd.V_at (base := w.heap.size) (Kd.N_V HO_6.out)).2.2
                                    have hcut66 := cut_to (P := Try.prog) 40 22 .i64 Try.underlying40 hi066 (some ad285) x6_1.length co62 (ji36) (of_decide_eq_true (by first | (with_reducible assumption) | assumption)) q66 hroom66
                                    have hr66 := Kd.F_take (m := ((ji36) : Int).toNat) hC66 (by omega)
                                    have hy66 : y293.length = ((ji36) : Int).toNat := (by rw [Ny293.out, List.length_take]; omega)
                                    rw [← Ny293.out] at hr66
                                    rw [← hy66] at hcut66
                                    have HO297 := Aside0.mk (show Kd.V (Kd.slice 47 k47) 22 _ w.heap.size _ (.slice (some ad285) y293.length co62) y293 from Kd.V_mk (by omega) hr66)
                                    have HC297 := Aside0.mk (show y293.length ≤ co62 from by omega)
                                    clear hr66 hC66 hroom66 hi066 hsz66
                                    have KY66 := Aside0.mk hy66
                                    clear hy66
                                    replace q66 := eq_true q66
                                    have q67 : ((ji44) : Int) ≤ ((x6_1.length : Int) : Int) := of_decide_eq_true (by first | (with_reducible assumption) | assumption)
                                    obtain ⟨i067, hi067, _, hsz67, _⟩ := info_parts info22
                                    have hroom67 : x6_1.length ≤ co62 := (Kd.N_reads' HO_6.out).2.1
                                    have hC67 : Kd.F (Kd.slice 47 k47) _ _ (some ad285) x6_1.length x6_1 := (Kd.V_at (base := w.heap.size) (Kd.N_V HO_6.out)).2.2
                                    have q067 : (0 : Int) ≤ ((ji44) : Int) := of_decide_eq_true (by first | (with_reducible assumption) | assumption)
                                    have hcut67 := cut_from (P := Try.prog) 40 22 .i64 Try.underlying40 hi067 1 hsz67 (some ad285) x6_1.length co62 (ji44) q067 q67
                                    have hr67 := Kd.F_cut (m := ((ji44) : Int).toNat) (c := co62) hC67 (by omega) hroom67
                                    obtain ⟨A67, hA67⟩ : ∃ A1, A1 = (if co62 = ((ji44) : Int).toNat then (some ad285) else ((some ad285) : Option Addr).map (·.add (((ji44) : Int).toNat * 1))) := ⟨_, rfl⟩
                                    obtain ⟨c67, hc67⟩ : ∃ c1, c1 = co62 - ((ji44) : Int).toNat := ⟨_, rfl⟩
                                    have hy67 : y301.length = x6_1.length - ((ji44) : Int).toNat := (by rw [Ny301.out, List.length_drop] <;> omega)
                                    rw [show (x6_1).drop ((ji44) : Int).toNat = y301 from Ny301.out.symm] at hr67
                                    replace hr67 : Kd.F (Kd.slice 47 k47) _ _ A67 y301.length y301 := (by rw [hA67]; exact hr67)
                                    rw [← hy67, ← hA67, ← hc67] at hcut67
                                    have HO305 := Aside0.mk (show Kd.V (Kd.slice 47 k47) 22 _ w.heap.size _ (.slice A67 y301.length c67) y301 from Kd.V_mk (by rw [hy67, hc67]; exact Nat.sub_le_sub_right hroom67 _) hr67)
                                    have HC305 := Aside0.mk (show y301.length ≤ c67 from by rw [hy67, hc67]; exact Nat.sub_le_sub_right hroom67 _)
                                    clear hr67 hC67 hroom67 hi067 hsz67 hc67
                                    have KY67 := Aside0.mk hy67
                                    have KA67 := Aside0.mk hA67
                                    clear hy67 hA67
                                    replace q67 := eq_true q67
                                    refine start_ (n := 11) (S := fun w' => True) (ds := []) #[false, false, false, false, false, false, false, false, false, false, false] (by kernel_rfl) rfl rfl trivial (fun hHeld => ?_); refine with_tabW reeflaw09_ExtentMoves.tab18 reeflaw09_ExtentMoves.bits18 (fun HT_ HW_ => ?_)
                                    generalize w64.drew = w65 at HO_5 HO_6 HL285_0 HO289 HR285_0 HB HO297 HO305 hHeld ⊢
                                    refine pure_ (i := 1) (N := some 78) (v := ?_) (a' := ?_) #[false, true, false, false, false, false, false, false, false, false, false] rfl rfl (any_of HT_.out (by kernel_rfl)) (fun _ _ _ h => h) (Or.inl ⟨by rfl, ?_⟩) ?_ ?_
                                    rotate_left
                                    · intro w'
                                      go_simp
                                      with_reducible rfl
                                    rotate_left
                                    · simp only [Act.put, List.setIfInBounds_toArray, List.set_cons_zero, List.set_cons_succ, i64_w, i32_w]
                                      rfl
                                    refine pure_ (i := 2) (N := some 79) (v := ?_) (a' := ?_) #[false, true, true, false, false, false, false, false, false, false, false] rfl rfl (any_of HT_.out (by kernel_rfl)) (fun _ _ _ h => h) (Or.inl ⟨by rfl, ?_⟩) ?_ ?_
                                    rotate_left
                                    · intro w'
                                      go_simp
                                      with_reducible rfl
                                    rotate_left
                                    · simp only [Act.put, List.setIfInBounds_toArray, List.set_cons_zero, List.set_cons_succ, i64_w, i32_w]
                                      rfl
                                    refine pure_ (i := 3) (N := some 80) (v := ?_) (a' := ?_) #[false, true, true, true, false, false, false, false, false, false, false] rfl rfl (any_of HT_.out (by kernel_rfl)) (fun _ _ _ h => h) (Or.inl ⟨by rfl, ?_⟩) ?_ ?_
                                    rotate_left
                                    · intro w'
                                      go_simp
                                      with_reducible rfl
                                    rotate_left
                                    · simp only [Act.put, List.setIfInBounds_toArray, List.set_cons_zero, List.set_cons_succ, i64_w, i32_w]
                                      rfl
                                    refine pure_ (i := 5) (N := some 82) (v := ?_) (a' := ?_) #[false, true, true, true, false, true, false, false, false, false, false] rfl rfl (any_of HT_.out (by kernel_rfl)) (fun _ _ _ h => h) (Or.inl ⟨by rfl, ?_⟩) ?_ ?_
                                    rotate_left
                                    · intro w'
                                      go_simp
                                      with_reducible rfl
                                    rotate_left
                                    · simp only [Act.put, List.setIfInBounds_toArray, List.set_cons_zero, List.set_cons_succ, i64_w, i32_w]
                                      rfl
                                    refine pure_ (i := 6) (N := some 83) (v := ?_) (a' := ?_) #[false, true, true, true, false, true, true, false, false, false, false] rfl rfl (any_of HT_.out (by kernel_rfl)) (fun _ _ _ h => h) (Or.inl ⟨by rfl, ?_⟩) ?_ ?_
                                    rotate_left
                                    · intro w'
                                      go_simp
                                      with_reducible rfl
                                    rotate_left
                                    · simp only [Act.put, List.setIfInBounds_toArray, List.set_cons_zero, List.set_cons_succ, i64_w, i32_w]
                                      rfl
                                    refine pure_ (i := 7) (N := some 84) (v := ?_) (a' := ?_) #[false, true, true, true, false, true, true, true, false, false, false] rfl rfl (any_of HT_.out (by kernel_rfl)) (fun _ _ _ h => h) (Or.inl ⟨by rfl, ?_⟩) ?_ ?_
                                    rotate_left
                                    · intro w'
                                      go_simp
                                      with_reducible rfl
                                    rotate_left
                                    · simp only [Act.put, List.setIfInBounds_toArray, List.set_cons_zero, List.set_cons_succ, i64_w, i32_w]
                                      rfl
                                    refine pure_ (i := 8) (N := some 85) (v := ?_) (a' := ?_) #[false, true, true, true, false, true, true, true, true, false, false] rfl rfl (any_of HT_.out (by kernel_rfl)) (fun _ _ _ h => h) (Or.inl ⟨by rfl, ?_⟩) ?_ ?_
                                    rotate_left
                                    · intro w'
                                      go_simp
                                      with_reducible rfl
                                    rotate_left
                                    · simp only [Act.put, List.setIfInBounds_toArray, List.set_cons_zero, List.set_cons_succ, i64_w, i32_w]
                                      rfl
                                    refine one_ (i := 0) (N := some 77) #[true, true, true, true, false, true, true, true, true, false, false] rfl rfl (one_of HT_.out (by kernel_rfl)) (by decide) (fun K hK => ?_)
                                    refine Kd.N_lit_step (Kd.slice 47 k47) _ 22 ?hg (N' := 77) ?hd (xs := ([] : List (List (S47)))) (inner := []) (ok := (fun k_ => some k_ ≠ (.slice Ao63 x5_1.length co63 : Value).ownBlock ∧ some k_ ≠ (.slice (some ad285) x6_1.length co62 : Value).ownBlock ∧ some k_ ≠ (v288 : Value).ownBlock)) (okp := (fun k_ => some k_ ≠ (.slice Ao63 x5_1.length co63 : Value).ownBlock ∧ some k_ ≠ (.slice (some ad285) x6_1.length co62 : Value).ownBlock ∧ some k_ ≠ (v288 : Value).ownBlock)) ?hr ?hp (fun _ hk => hk) ((show ∀ k_, w65.heap.size ≤ k_ → (fun k_ => some k_ ≠ (.slice Ao63 x5_1.length co63 : Value).ownBlock ∧ some k_ ≠ (.slice (some ad285) x6_1.length co62 : Value).ownBlock ∧ some k_ ≠ (v288 : Value).ownBlock) k_ from fun k_ hk => ⟨Kd.fresh' (Kd.R_lt (by (with_reducible repeat (first | apply Kd.R_alloc | apply Kd.R_drewN | apply Kd.R_drew)); exact HO_5.out)) k_ hk, Kd.fresh' (Kd.N_lt (by (with_reducible repeat (first | apply Kd.N_alloc | apply Kd.N_drewN | apply Kd.N_drew)); exact HO_6.out)) k_ hk, Kd.fresh' (Kd.R_lt (by (with_reducible repeat (first | apply Kd.R_alloc | apply Kd.R_drewN | apply Kd.R_drew)); exact HO289.out)) k_ hk⟩) _ (Nat.le_refl _)) (Below.refl _ _) (Nat.le_refl _) (by simp) ?_; (case hd => rfl); (case hg => rfl); (case hr => first | (go_simp; done) | (go_simp; rfl)); (case hp => exact (Reps.none _ _))
                                    intro v291 w68 ho69 hb hg_ hnew_
                                    clear hg_ hnew_
                                    (first | rw [← Ny290.out] at ho69 | (simp only [Int.reduceToNat] at ho69; rw [← Ny290.out] at ho69))
                                    have n0_ := Aside0.mk (Kd.R_below (by (with_reducible repeat (first | apply Kd.R_alloc | apply Kd.R_drewN | apply Kd.R_drew)); exact HO_5.out) hb)
                                    have n1_ := Aside0.mk (Kd.N_elder' (by (with_reducible repeat (first | apply Kd.N_alloc | apply Kd.N_drewN | apply Kd.N_drew)); exact HO_6.out) (Kd.N_base ho69) hb)
                                    have n2_ := Aside0.mk (Kd.V_elder' (by (with_reducible repeat (first | apply Kd.V_alloc | apply Kd.V_drewN | apply Kd.V_drew)); exact HL285_0.out) (Kd.N_base ho69) hb)
                                    have n3_ := Aside0.mk (Kd.R_below (by (with_reducible repeat (first | apply Kd.R_alloc | apply Kd.R_drewN | apply Kd.R_drew)); exact HO289.out) hb)
                                    have n4_ := Aside0.mk (Kd.V_elder' (by (with_reducible repeat (first | apply Kd.V_alloc | apply Kd.V_drewN | apply Kd.V_drew)); exact HO297.out) (Kd.N_base ho69) hb)
                                    have n5_ := Aside0.mk (Kd.V_elder' (by (with_reducible repeat (first | apply Kd.V_alloc | apply Kd.V_drewN | apply Kd.V_drew)); exact HO305.out) (Kd.N_base ho69) hb)
                                    have n6_ := Aside0.mk (Kd.N_lower ho69 (below_size (by repeat (first | (with_reducible first | exact HB.out | apply below_alloc | apply pw_below_drewN | apply below_drew1) | exact HB.out))))
                                    have n7_ := Aside0.mk (Kd.C_below (by repeat (first | (with_reducible exact HR285_0.out) | (with_reducible refine Kd.C_alloc ?_ _) | (with_reducible refine Kd.C_drewN ?_ _) | (with_reducible refine Kd.C_drew ?_) | exact HR285_0.out)) hb)
                                    have n8_ := Aside0.mk (below_step (by repeat (first | (with_reducible first | exact HB.out | apply below_alloc | apply pw_below_drewN | apply below_drew1) | exact HB.out)) hb)
                                    clear HO_5
                                    clear HO_6
                                    clear HL285_0
                                    clear HO289
                                    clear HO297
                                    clear HO305
                                    clear HR285_0
                                    clear HB
                                    have HO_5 := n0_
                                    have HO_6 := n1_
                                    have HL285_0 := n2_
                                    have HO289 := n3_
                                    have HO297 := n4_
                                    have HO305 := n5_
                                    have HO292 := n6_
                                    have HR285_0 := n7_
                                    have HB := n8_
                                    clear n0_ n1_ n2_ n3_ n4_ n5_ n6_ n7_ n8_
                                    clear hb ho69
                                    refine hK.out _ _ trivial (fun hHeld => ?_)
                                    clear hK K
                                    refine norm_ (a' := ?_) ?_ ?_
                                    rotate_left
                                    · show Act.put _ (some 77) _ = _
                                      simp only [Act.put, List.setIfInBounds_toArray, List.set_cons_zero, List.set_cons_succ, i64_w, i32_w]
                                      rfl
                                    refine one_ (i := 4) (N := some 81) #[true, true, true, true, true, true, true, true, true, false, false] rfl rfl (one_of HT_.out (by kernel_rfl)) (by decide) (fun K hK => ?_)
                                    refine Kd.N_append_rows_step (Kd.slice 47 k47) (w0 := w) w.heap.size (by rfl) (.tmp 77) (.tmp 80) 40 22 (.slice none 0 0) 24 rfl Try.underlying40 info22 rfl (by decide) (by omega) v291 y290 y293 _ _ _ (fun k_ => some k_ ≠ (.slice Ao63 x5_1.length co63 : Value).ownBlock ∧ some k_ ≠ (v288 : Value).ownBlock) (fun k_ => ((fun k_ => some k_ ≠ (.slice Ao63 x5_1.length co63 : Value).ownBlock ∧ some k_ ≠ (v288 : Value).ownBlock)) k_ ∧ some k_ ≠ (v291 : Value).ownBlock) rfl rfl ?aO ?aR (fun _ hk => hk) ?aF ?aB ?aS ?aL ?_
                                    (case aR => exact (by skip; exact Kd.V_F (Kd.V_mono (ok' := (fun k_ => ((fun k_ => some k_ ≠ (.slice Ao63 x5_1.length co63 : Value).ownBlock ∧ some k_ ≠ (v288 : Value).ownBlock)) k_ ∧ some k_ ≠ (v291 : Value).ownBlock)) (HO297.out) (fun k_ hk => ⟨⟨hk.1.1, hk.1.2⟩, hk.2⟩))))
                                    (case aB => exact (by repeat (first | (with_reducible first | exact HB.out | apply below_alloc | apply pw_below_drewN | apply below_drew1) | exact HB.out)))
                                    (case aF => exact (fun k_ hk => ⟨Kd.fresh' (Kd.R_lt (by (with_reducible repeat (first | apply Kd.R_alloc | apply Kd.R_drewN | apply Kd.R_drew)); exact HO_5.out)) k_ hk, Kd.fresh' (Kd.R_lt (by (with_reducible repeat (first | apply Kd.R_alloc | apply Kd.R_drewN | apply Kd.R_drew)); exact HO289.out)) k_ hk⟩))
                                    (case aO => exact (by (with_reducible repeat (first | apply Kd.N_alloc | apply Kd.N_drewN | apply Kd.N_drew)); exact Kd.N_mono HO292.out (fun _ hk => ⟨hk.1, hk.2.2⟩)))
                                    (case aS => exact (below_size (by repeat (first | (with_reducible first | exact HB.out | apply below_alloc | apply pw_below_drewN | apply below_drew1) | exact HB.out))))
                                    (case aL => have := LMc43.out; omega)
                                    intro v299 w70 ho hb hg hat
                                    rw [← Ny298.out] at ho
                                    have n0_ := Aside0.mk (Kd.R_over' (by (with_reducible repeat (first | apply Kd.R_alloc | apply Kd.R_drewN | apply Kd.R_drew)); exact HO_5.out) (Kd.N_typed (by (with_reducible repeat (first | apply Kd.N_alloc | apply Kd.N_drewN | apply Kd.N_drew)); exact HO292.out)) (by decide) hg)
                                    have n1_ := Aside0.mk (Kd.N_afterv (ok := (fun k_ => some k_ ≠ (.slice Ao63 x5_1.length co63 : Value).ownBlock ∧ some k_ ≠ (v288 : Value).ownBlock)) (by (with_reducible repeat (first | apply Kd.N_alloc | apply Kd.N_drewN | apply Kd.N_drew)); exact HO_6.out) hg hat)
                                    have n2_ := Aside0.mk (Kd.V_afterv (ok := (fun k_ => some k_ ≠ (.slice Ao63 x5_1.length co63 : Value).ownBlock ∧ some k_ ≠ (.slice (some ad285) x6_1.length co62 : Value).ownBlock ∧ some k_ ≠ (v288 : Value).ownBlock)) (by (with_reducible repeat (first | apply Kd.V_alloc | apply Kd.V_drewN | apply Kd.V_drew)); exact Kd.V_mono HL285_0.out (fun _ hk => ⟨⟨hk.1.1.1, ⟨hk.1.1.2, hk.1.2⟩⟩, hk.2⟩)) hg hat)
                                    have n3_ := Aside0.mk (Kd.R_over' (by (with_reducible repeat (first | apply Kd.R_alloc | apply Kd.R_drewN | apply Kd.R_drew)); exact HO289.out) (Kd.N_typed (by (with_reducible repeat (first | apply Kd.N_alloc | apply Kd.N_drewN | apply Kd.N_drew)); exact HO292.out)) (by decide) hg)
                                    have n4_ := Aside0.mk (Kd.V_afterv (ok := (fun k_ => some k_ ≠ (.slice Ao63 x5_1.length co63 : Value).ownBlock ∧ some k_ ≠ (v288 : Value).ownBlock)) (by (with_reducible repeat (first | apply Kd.V_alloc | apply Kd.V_drewN | apply Kd.V_drew)); exact HO297.out) hg hat)
                                    have n5_ := Aside0.mk (Kd.V_afterv (ok := (fun k_ => some k_ ≠ (.slice Ao63 x5_1.length co63 : Value).ownBlock ∧ some k_ ≠ (v288 : Value).ownBlock)) (by (with_reducible repeat (first | apply Kd.V_alloc | apply Kd.V_drewN | apply Kd.V_drew)); exact HO305.out) hg hat)
                                    have n6_ := Aside0.mk (hb)
                                    have n7_ := Aside0.mk (ho)
                                    clear HO_5
                                    clear HO_6
                                    clear HL285_0
                                    clear HO289
                                    clear HO297
                                    clear HO305
                                    clear HB
                                    clear HO292
                                    have HO_5 := n0_
                                    have HO_6 := n1_
                                    have HL285_0 := n2_
                                    have HO289 := n3_
                                    have HO297 := n4_
                                    have HO305 := n5_
                                    have HB := n6_
                                    have HO300 := n7_
                                    clear n0_ n1_ n2_ n3_ n4_ n5_ n6_ n7_
                                    clear ho hb hg hat
                                    refine hK.out _ _ trivial (fun hHeld => ?_)
                                    clear hK K
                                    refine norm_ (a' := ?_) ?_ ?_
                                    rotate_left
                                    · show Act.put _ (some 81) _ = _
                                      simp only [Act.put, List.setIfInBounds_toArray, List.set_cons_zero, List.set_cons_succ, i64_w, i32_w]
                                      rfl
                                    refine one_ (i := 9) (N := some 86) #[true, true, true, true, true, true, true, true, true, true, false] rfl rfl (one_of HT_.out (by kernel_rfl)) (by decide) (fun K hK => ?_)
                                    refine Kd.N_append_rows_step (Kd.slice 47 k47) (w0 := w) w.heap.size (by rfl) (.tmp 81) (.tmp 85) 40 22 (.slice none 0 0) 24 rfl Try.underlying40 info22 rfl (by decide) (by omega) v299 y298 y301 _ _ _ (fun k_ => some k_ ≠ (.slice Ao63 x5_1.length co63 : Value).ownBlock ∧ some k_ ≠ (v288 : Value).ownBlock) (fun k_ => ((fun k_ => some k_ ≠ (.slice Ao63 x5_1.length co63 : Value).ownBlock ∧ some k_ ≠ (v288 : Value).ownBlock)) k_ ∧ some k_ ≠ (v299 : Value).ownBlock) rfl rfl ?aO ?aR (fun _ hk => hk) ?aF ?aB ?aS ?aL ?_
                                    (case aR => exact (by skip; exact Kd.V_F (Kd.V_mono (ok' := (fun k_ => ((fun k_ => some k_ ≠ (.slice Ao63 x5_1.length co63 : Value).ownBlock ∧ some k_ ≠ (v288 : Value).ownBlock)) k_ ∧ some k_ ≠ (v299 : Value).ownBlock)) (HO305.out) (fun k_ hk => ⟨⟨hk.1.1, hk.1.2⟩, hk.2⟩))))
                                    (case aB => exact (by repeat (first | (with_reducible first | exact HB.out | apply below_alloc | apply pw_below_drewN | apply below_drew1) | exact HB.out)))
                                    (case aF => exact (fun k_ hk => ⟨Kd.fresh' (Kd.R_lt (by (with_reducible repeat (first | apply Kd.R_alloc | apply Kd.R_drewN | apply Kd.R_drew)); exact HO_5.out)) k_ hk, Kd.fresh' (Kd.R_lt (by (with_reducible repeat (first | apply Kd.R_alloc | apply Kd.R_drewN | apply Kd.R_drew)); exact HO289.out)) k_ hk⟩))
                                    (case aO => exact (by (with_reducible repeat (first | apply Kd.N_alloc | apply Kd.N_drewN | apply Kd.N_drew)); exact HO300.out))
                                    (case aS => exact (below_size (by repeat (first | (with_reducible first | exact HB.out | apply below_alloc | apply pw_below_drewN | apply below_drew1) | exact HB.out))))
                                    (case aL => have := LMc47.out; omega)
                                    intro v307 w71 ho hb hg hat
                                    rw [← Ny306.out] at ho
                                    have n0_ := Aside0.mk (Kd.R_over' (by (with_reducible repeat (first | apply Kd.R_alloc | apply Kd.R_drewN | apply Kd.R_drew)); exact HO_5.out) (Kd.N_typed (by (with_reducible repeat (first | apply Kd.N_alloc | apply Kd.N_drewN | apply Kd.N_drew)); exact HO300.out)) (by decide) hg)
                                    have n1_ := Aside0.mk (Kd.N_afterv (ok := (fun k_ => some k_ ≠ (.slice Ao63 x5_1.length co63 : Value).ownBlock ∧ some k_ ≠ (v288 : Value).ownBlock)) (by (with_reducible repeat (first | apply Kd.N_alloc | apply Kd.N_drewN | apply Kd.N_drew)); exact HO_6.out) hg hat)
                                    have n2_ := Aside0.mk (Kd.V_afterv (ok := (fun k_ => some k_ ≠ (.slice Ao63 x5_1.length co63 : Value).ownBlock ∧ some k_ ≠ (.slice (some ad285) x6_1.length co62 : Value).ownBlock ∧ some k_ ≠ (v288 : Value).ownBlock)) (by (with_reducible repeat (first | apply Kd.V_alloc | apply Kd.V_drewN | apply Kd.V_drew)); exact HL285_0.out) hg hat)
                                    have n3_ := Aside0.mk (Kd.R_over' (by (with_reducible repeat (first | apply Kd.R_alloc | apply Kd.R_drewN | apply Kd.R_drew)); exact HO289.out) (Kd.N_typed (by (with_reducible repeat (first | apply Kd.N_alloc | apply Kd.N_drewN | apply Kd.N_drew)); exact HO300.out)) (by decide) hg)
                                    have n4_ := Aside0.mk (Kd.V_afterv (ok := (fun k_ => some k_ ≠ (.slice Ao63 x5_1.length co63 : Value).ownBlock ∧ some k_ ≠ (v288 : Value).ownBlock)) (by (with_reducible repeat (first | apply Kd.V_alloc | apply Kd.V_drewN | apply Kd.V_drew)); exact HO297.out) hg hat)
                                    have n5_ := Aside0.mk (Kd.V_afterv (ok := (fun k_ => some k_ ≠ (.slice Ao63 x5_1.length co63 : Value).ownBlock ∧ some k_ ≠ (v288 : Value).ownBlock)) (by (with_reducible repeat (first | apply Kd.V_alloc | apply Kd.V_drewN | apply Kd.V_drew)); exact HO305.out) hg hat)
                                    have n6_ := Aside0.mk (hb)
                                    have n7_ := Aside0.mk (ho)
                                    clear HO_5
                                    clear HO_6
                                    clear HL285_0
                                    clear HO289
                                    clear HO297
                                    clear HO305
                                    clear HB
                                    clear HO300
                                    have HO_5 := n0_
                                    have HO_6 := n1_
                                    have HL285_0 := n2_
                                    have HO289 := n3_
                                    have HO297 := n4_
                                    have HO305 := n5_
                                    have HB := n6_
                                    have HO308 := n7_
                                    clear n0_ n1_ n2_ n3_ n4_ n5_ n6_ n7_
                                    clear ho hb hg hat
                                    refine hK.out _ _ trivial (fun hHeld => ?_)
                                    clear hK K
                                    refine norm_ (a' := ?_) ?_ ?_
                                    rotate_left
                                    · show Act.put _ (some 86) _ = _
                                      simp only [Act.put, List.setIfInBounds_toArray, List.set_cons_zero, List.set_cons_succ, i64_w, i32_w]
                                      rfl
                                    refine pure_ (i := 10) (N := some 6) (v := ?_) (a' := ?_) #[true, true, true, true, true, true, true, true, true, true, true] rfl rfl (any_of HT_.out (by kernel_rfl)) (fun _ _ _ h => h) (Or.inl ⟨by rfl, ?_⟩) ?_ ?_
                                    rotate_left
                                    · intro w'
                                      go_simp
                                      with_reducible rfl
                                    rotate_left
                                    · simp only [Act.put, List.setIfInBounds_toArray, List.set_cons_zero, List.set_cons_succ, i64_w, i32_w]
                                      rfl
                                    refine done_ (done_of HT_.out (by kernel_rfl)) ?_
                                    obtain ⟨Ao72, co72, eo72⟩ := Kd.R_slice HO289.out
                                    subst eo72
                                    try go_wp2_with (first | ((with_reducible refine gate_callee (f := 6) rfl ?_); refine goesL_ (some 89) rfl rfl Try.func6 (by kernel_rfl) rfl #[.int .i64 (wrap64 (1 + (wrap64 (Int.tmod (IntKind.u64.wrap (a0)) 200)))), .slice Ao72 t286.length co72] rfl (by (try simp only [List.map_toArray, List.map_cons, List.map_nil]); first | done | rfl | (simp only [List.length_drop, List.length_take]; rfl)) ?_; (with_reducible refine (extent_Fit.calls k1 (wrap64 (1 + (wrap64 (Int.tmod (IntKind.u64.wrap (a0)) 200)))) _ _ t286 false _ ?side1 ?side2 A48.out).mono ?_); (case side1 => repeat (first | exact (Kd.R_reads' HO289.out).2.2 | (with_reducible refine Kd.C_alloc ?_ _) | (with_reducible refine Kd.C_drewN ?_ _) | (with_reducible refine Kd.C_drew ?_))); (case side2 => exact (Kd.R_reads' HO289.out).2.1); rintro e w73 ⟨rfl, hb⟩; refine ⟨_, rfl, ?_⟩; have n0_ := Aside0.mk (Kd.R_below (by (with_reducible repeat (first | apply Kd.R_alloc | apply Kd.R_drewN | apply Kd.R_drew)); exact HO_5.out) hb); have n1_ := Aside0.mk (Kd.N_below (by (with_reducible repeat (first | apply Kd.N_alloc | apply Kd.N_drewN | apply Kd.N_drew)); exact HO_6.out) hb); have n2_ := Aside0.mk (Kd.V_below (by (with_reducible repeat (first | apply Kd.V_alloc | apply Kd.V_drewN | apply Kd.V_drew)); exact HL285_0.out) hb); have n3_ := Aside0.mk (Kd.R_below (by (with_reducible repeat (first | apply Kd.R_alloc | apply Kd.R_drewN | apply Kd.R_drew)); exact HO289.out) hb); have n4_ := Aside0.mk (Kd.V_below (by (with_reducible repeat (first | apply Kd.V_alloc | apply Kd.V_drewN | apply Kd.V_drew)); exact HO297.out) hb); have n5_ := Aside0.mk (Kd.V_below (by (with_reducible repeat (first | apply Kd.V_alloc | apply Kd.V_drewN | apply Kd.V_drew)); exact HO305.out) hb); have n6_ := Aside0.mk (Kd.N_below (by (with_reducible repeat (first | apply Kd.N_alloc | apply Kd.N_drewN | apply Kd.N_drew)); exact HO308.out) hb); have n7_ := Aside0.mk (below_step (by repeat (first | (with_reducible first | exact HB.out | apply below_alloc | apply pw_below_drewN | apply below_drew1) | exact HB.out)) hb); clear HO_5; clear HO_6; clear HL285_0; clear HO289; clear HO297; clear HO305; clear HO308; clear HB; have HO_5 := n0_; have HO_6 := n1_; have HL285_0 := n2_; have HO289 := n3_; have HO297 := n4_; have HO305 := n5_; have HO308 := n6_; have HB := n7_; clear n0_ n1_ n2_ n3_ n4_ n5_ n6_ n7_; (try clear hb); (try clear hb2); (try clear hk); (try clear hi)))
                                    go_ret
                                    exact ⟨by first | rfl | (simp [errW_none, errW_some] <;> rfl) | (simp only [← hji36, ← hji44]; first | rfl | (simp [errW_none, errW_some] <;> rfl)) | (simp [*, errW_none, errW_some] <;> rfl), by repeat (first | (with_reducible first | exact HB.out | apply below_alloc | apply pw_below_drewN | apply below_drew1) | exact HB.out)⟩
                                · rw [if_neg c47] at H
                                  exact absurd H (by simp)
                              · rw [if_neg c46] at H
                                exact absurd H (by simp)
                            · rw [if_neg c45] at H
                              exact absurd H (by simp)
                          · rw [if_neg c43] at H
                            exact absurd H (by simp)
                        · rw [if_neg c42] at H
                          exact absurd H (by simp)
                      · rw [if_neg c40] at H
                        have c40b0 : (t287 == 0) = false := beq_eq_false_iff_ne.mpr c40
                        have c40b1 : (t287 != 0) = true := bne_iff_ne.mpr c40
                        obtain rfl := Option.some.inj H
                        have p272 : 0 ≤ (x33_1 : Int) := of_decide_eq_true (by first | (with_reducible assumption) | assumption)
                        have q272 : x33_1 < (l1.length : Int) := of_decide_eq_true (by first | (with_reducible assumption) | assumption)
                        obtain ⟨ad272, e272, hx272_0⟩ := Kd.at_int HR1.out x33_1 p272 q272
                        cases e272
                        replace hx272_0 := (HB.out.cell (World.block_lt_of_cell? w _ hx272_0)).trans hx272_0
                        replace p272 := eq_true p272
                        replace q272 := eq_true q272
                        obtain ⟨Ao74, co74, eo74⟩ := Kd.N_slice HO_6.out
                        subst eo74
                        have p285 : 0 ≤ ((ji36) : Int) := of_decide_eq_true (by first | (with_reducible assumption) | assumption)
                        have q285 : (ji36) < (x6_1.length : Int) := of_decide_eq_true (by first | (with_reducible assumption) | assumption)
                        obtain ⟨ad285, A285_0, c285_0, e285, hx285_0, hl285_0, hi285_0⟩ := at_L3 (Kd.N_reads' HO_6.out).2.2 (ji36) p285 q285
                        cases e285
                        obtain ⟨ce285, hce285, hMe285, hcc285⟩ := Kd.N_get HO_6.out [] (ji36) p285 (by first | exact q285 | exact of_decide_eq_true (by first | (with_reducible assumption) | assumption) | (have e_ := (Kd.N_reads' HO_6.out).1; omega))
                        obtain ⟨ua285_0, uc285_0, rfl, ul285_0, ge285_0⟩ := Kd.FK_slice_open hMe285
                        have hv285_0 := hcc285 0 _ rfl
                        rw [Nat.add_zero, show ((Kd.slice 47 k47)).sz = 1 from rfl, Nat.mul_one] at hv285_0
                        replace hv285_0 := Option.some.inj (hv285_0.symm.trans hx285_0)
                        injection hv285_0 with hva_ hvn_ hvc_
                        rw [hva_] at ge285_0
                        rw [hvc_] at ul285_0
                        have HL285_0 := Aside0.mk (show Kd.V k47 47 _ w.heap.size _ _ (rd_L3 x6_1 (ji36)) from Kd.V_mk ul285_0 ge285_0)
                        clear hva_ hvn_ hvc_ ge285_0 ul285_0
                        clear hcc285 hce285
                        have HR285_0 := Aside0.mk hi285_0
                        have HC285_0 := Aside0.mk hl285_0
                        clear hi285_0 hl285_0
                        replace p285 := eq_true p285
                        replace q285 := eq_true q285
                        obtain ⟨Ao75, co75, eo75⟩ := Kd.R_slice HO_5.out
                        subst eo75
                        go_wp2_with (first | ((with_reducible refine gate_callee (f := 15) rfl ?_); refine goesL_ (some 71) rfl rfl Try.func15 (by kernel_rfl) rfl #[.int .i64 (wrap64 (1 + (wrap64 (Int.tmod (IntKind.u64.wrap (a0)) 200)))), .slice Ao75 x5_1.length co75, .slice A285_0 (rd_L3 x6_1 (ji36)).length c285_0] rfl (by (try simp only [List.map_toArray, List.map_cons, List.map_nil]); first | done | (simp only [hji36]; rfl) | rfl | (simp only [List.length_drop, List.length_take]; rfl)) ?_; (with_reducible refine (extent_Give.calls (wrap64 (1 + (wrap64 (Int.tmod (IntKind.u64.wrap (a0)) 200)))) _ _ x5_1 _ _ (rd_L3 x6_1 (ji36)) t286 t287 _ ?side1 ?side2 ?side3 ?side4 A39.out).mono ?_); (case side1 => repeat (first | exact (Kd.R_reads' HO_5.out).2.2 | (with_reducible refine Kd.C_alloc ?_ _) | (with_reducible refine Kd.C_drewN ?_ _) | (with_reducible refine Kd.C_drew ?_))); (case side2 => exact (Kd.R_reads' HO_5.out).2.1); (case side3 => repeat (first | exact (by repeat (first | (with_reducible exact HR285_0.out) | (with_reducible refine Kd.C_alloc ?_ _) | (with_reducible refine Kd.C_drewN ?_ _) | (with_reducible refine Kd.C_drew ?_) | exact HR285_0.out)) | (with_reducible refine Kd.C_alloc ?_ _) | (with_reducible refine Kd.C_drewN ?_ _) | (with_reducible refine Kd.C_drew ?_))); (case side4 => exact HC285_0.out); rintro e w76 ⟨v288, rfl, ho0, hb⟩; refine ⟨_, rfl, ?_⟩; have n0_ := Aside0.mk (Kd.R_elder' (by (with_reducible repeat (first | apply Kd.R_alloc | apply Kd.R_drewN | apply Kd.R_drew)); exact HO_5.out) (Kd.R_base ho0) hb); have n1_ := Aside0.mk (Kd.N_elder' (by (with_reducible repeat (first | apply Kd.N_alloc | apply Kd.N_drewN | apply Kd.N_drew)); exact HO_6.out) (Kd.R_base ho0) hb); have n2_ := Aside0.mk (Kd.V_elder' (by (with_reducible repeat (first | apply Kd.V_alloc | apply Kd.V_drewN | apply Kd.V_drew)); exact HL285_0.out) (Kd.R_base ho0) hb); have n3_ := Aside0.mk (Kd.R_lower (Kd.R_new' ho0 (Kd.R_lt (by (with_reducible repeat (first | apply Kd.R_alloc | apply Kd.R_drewN | apply Kd.R_drew)); exact HO_5.out))) (below_size (by repeat (first | (with_reducible first | exact HB.out | apply below_alloc | apply pw_below_drewN | apply below_drew1) | exact HB.out)))); have n4_ := Aside0.mk (Kd.C_below (by repeat (first | (with_reducible exact HR285_0.out) | (with_reducible refine Kd.C_alloc ?_ _) | (with_reducible refine Kd.C_drewN ?_ _) | (with_reducible refine Kd.C_drew ?_) | exact HR285_0.out)) hb); have n5_ := Aside0.mk (below_step (by repeat (first | (with_reducible first | exact HB.out | apply below_alloc | apply pw_below_drewN | apply below_drew1) | exact HB.out)) hb); clear HO_5; clear HO_6; clear HL285_0; clear HR285_0; clear HB; have HO_5 := n0_; have HO_6 := n1_; have HL285_0 := n2_; have HO289 := n3_; have HR285_0 := n4_; have HB := n5_; clear n0_ n1_ n2_ n3_ n4_ n5_; (try clear hb); (try clear hb2); (try clear hk); (try clear hi); (try clear ho0)))
                        go_ret
                        exact ⟨by first | rfl | (simp [errW_none, errW_some] <;> rfl) | (simp only [← hji36]; first | rfl | (simp [errW_none, errW_some] <;> rfl)) | (simp [*, errW_none, errW_some] <;> rfl), by repeat (first | (with_reducible first | exact HB.out | apply below_alloc | apply pw_below_drewN | apply below_drew1) | exact HB.out)⟩
                    · rw [if_neg c38] at H
                      exact absurd H (by simp)
                  · rw [if_neg c37] at H
                    exact absurd H (by simp)
              · rw [if_neg c34] at H
                have c34b0 : decide (0 < (x6_1.length : Int)) = false := decide_eq_false c34
                have c34b1 : decide (0 < x6_1.length) = false := decide_eq_false (by omega)
                clear c34
                replace H := Option.bind_eq_some_iff.mp H
                obtain ⟨t310, A770, H⟩ := H
                replace H : (if t310 = true then (reeflaw09_ExtentMoves.l0 k1 (wrap64 (1 + (wrap64 (Int.tmod (IntKind.u64.wrap (a0)) 200)))) x5_1 x6_1 l1 (l1.length : Int) (wrap64 (x33_1 + 1))) else (some false)) = some r := H
                have A77 := Aside0.mk A770
                clear A770
                by_cases c78 : t310 = true
                · subst c78
                  have H1 : (reeflaw09_ExtentMoves.l0 k1 (wrap64 (1 + (wrap64 (Int.tmod (IntKind.u64.wrap (a0)) 200)))) x5_1 x6_1 l1 (l1.length : Int) (wrap64 (x33_1 + 1))) = some r := by rw [if_pos rfl] at H; exact H
                  clear H
                  have H := H1
                  clear H1
                  have H' := Aside0.mk H
                  clear H
                  have p272 : 0 ≤ (x33_1 : Int) := of_decide_eq_true (by first | (with_reducible assumption) | assumption)
                  have q272 : x33_1 < (l1.length : Int) := of_decide_eq_true (by first | (with_reducible assumption) | assumption)
                  obtain ⟨ad272, e272, hx272_0⟩ := Kd.at_int HR1.out x33_1 p272 q272
                  cases e272
                  replace hx272_0 := (HB.out.cell (World.block_lt_of_cell? w _ hx272_0)).trans hx272_0
                  replace p272 := eq_true p272
                  replace q272 := eq_true q272
                  obtain ⟨Ao79, co79, eo79⟩ := Kd.N_slice HO_6.out
                  subst eo79
                  obtain ⟨Ao80, co80, eo80⟩ := Kd.R_slice HO_5.out
                  subst eo80
                  go_wp2_with (first | ((with_reducible refine gate_callee (f := 6) rfl ?_); refine goesL_ (some 89) rfl rfl Try.func6 (by kernel_rfl) rfl #[.int .i64 (wrap64 (1 + (wrap64 (Int.tmod (IntKind.u64.wrap (a0)) 200)))), .slice Ao80 x5_1.length co80] rfl (by (try simp only [List.map_toArray, List.map_cons, List.map_nil]); first | done | rfl | (simp only [List.length_drop, List.length_take]; rfl)) ?_; (with_reducible refine (extent_Fit.calls k1 (wrap64 (1 + (wrap64 (Int.tmod (IntKind.u64.wrap (a0)) 200)))) _ _ x5_1 true _ ?side1 ?side2 A77.out).mono ?_); (case side1 => repeat (first | exact (Kd.R_reads' HO_5.out).2.2 | (with_reducible refine Kd.C_alloc ?_ _) | (with_reducible refine Kd.C_drewN ?_ _) | (with_reducible refine Kd.C_drew ?_))); (case side2 => exact (Kd.R_reads' HO_5.out).2.1); rintro e w81 ⟨rfl, hb⟩; refine ⟨_, rfl, ?_⟩; have n0_ := Aside0.mk (Kd.R_below (by (with_reducible repeat (first | apply Kd.R_alloc | apply Kd.R_drewN | apply Kd.R_drew)); exact HO_5.out) hb); have n1_ := Aside0.mk (Kd.N_below (by (with_reducible repeat (first | apply Kd.N_alloc | apply Kd.N_drewN | apply Kd.N_drew)); exact HO_6.out) hb); have n2_ := Aside0.mk (below_step (by repeat (first | (with_reducible first | exact HB.out | apply below_alloc | apply pw_below_drewN | apply below_drew1) | exact HB.out)) hb); clear HO_5; clear HO_6; clear HB; have HO_5 := n0_; have HO_6 := n1_; have HB := n2_; clear n0_ n1_ n2_; (try clear hb); (try clear hb2); (try clear hk); (try clear hi)))
                  go_roundg k1
                  case measure => have := HK1.out; omega
                  case rel => exact ⟨(x5_1), (x6_1), (wrap64 (x33_1 + 1)), (by first | rfl | (simp; done) | (simp [*]; done)), H', ⟨by have := HK1.out; omega⟩, ⟨by (with_reducible repeat (first | apply Kd.R_alloc | apply Kd.R_drewN | apply Kd.R_drew)); exact HO_5.out⟩, ⟨by (with_reducible repeat (first | apply Kd.N_alloc | apply Kd.N_drewN | apply Kd.N_drew)); exact HO_6.out⟩, ⟨by repeat (first | (with_reducible first | exact HB.out | apply below_alloc | apply pw_below_drewN | apply below_drew1) | exact HB.out)⟩⟩
                · replace c78 := Bool.eq_false_iff.mpr c78
                  subst c78
                  have H1 : (some false) = some r := by rw [if_neg (show ¬ (false = true) by decide)] at H; exact H
                  clear H
                  have H := H1
                  clear H1
                  obtain rfl := Option.some.inj H
                  have p272 : 0 ≤ (x33_1 : Int) := of_decide_eq_true (by first | (with_reducible assumption) | assumption)
                  have q272 : x33_1 < (l1.length : Int) := of_decide_eq_true (by first | (with_reducible assumption) | assumption)
                  obtain ⟨ad272, e272, hx272_0⟩ := Kd.at_int HR1.out x33_1 p272 q272
                  cases e272
                  replace hx272_0 := (HB.out.cell (World.block_lt_of_cell? w _ hx272_0)).trans hx272_0
                  replace p272 := eq_true p272
                  replace q272 := eq_true q272
                  obtain ⟨Ao82, co82, eo82⟩ := Kd.N_slice HO_6.out
                  subst eo82
                  obtain ⟨Ao83, co83, eo83⟩ := Kd.R_slice HO_5.out
                  subst eo83
                  go_wp2_with (first | ((with_reducible refine gate_callee (f := 6) rfl ?_); refine goesL_ (some 89) rfl rfl Try.func6 (by kernel_rfl) rfl #[.int .i64 (wrap64 (1 + (wrap64 (Int.tmod (IntKind.u64.wrap (a0)) 200)))), .slice Ao83 x5_1.length co83] rfl (by (try simp only [List.map_toArray, List.map_cons, List.map_nil]); first | done | rfl | (simp only [List.length_drop, List.length_take]; rfl)) ?_; (with_reducible refine (extent_Fit.calls k1 (wrap64 (1 + (wrap64 (Int.tmod (IntKind.u64.wrap (a0)) 200)))) _ _ x5_1 false _ ?side1 ?side2 A77.out).mono ?_); (case side1 => repeat (first | exact (Kd.R_reads' HO_5.out).2.2 | (with_reducible refine Kd.C_alloc ?_ _) | (with_reducible refine Kd.C_drewN ?_ _) | (with_reducible refine Kd.C_drew ?_))); (case side2 => exact (Kd.R_reads' HO_5.out).2.1); rintro e w84 ⟨rfl, hb⟩; refine ⟨_, rfl, ?_⟩; have n0_ := Aside0.mk (Kd.R_below (by (with_reducible repeat (first | apply Kd.R_alloc | apply Kd.R_drewN | apply Kd.R_drew)); exact HO_5.out) hb); have n1_ := Aside0.mk (Kd.N_below (by (with_reducible repeat (first | apply Kd.N_alloc | apply Kd.N_drewN | apply Kd.N_drew)); exact HO_6.out) hb); have n2_ := Aside0.mk (below_step (by repeat (first | (with_reducible first | exact HB.out | apply below_alloc | apply pw_below_drewN | apply below_drew1) | exact HB.out)) hb); clear HO_5; clear HO_6; clear HB; have HO_5 := n0_; have HO_6 := n1_; have HB := n2_; clear n0_ n1_ n2_; (try clear hb); (try clear hb2); (try clear hk); (try clear hi)))
                  go_ret
                  exact ⟨by first | rfl | (simp [errW_none, errW_some] <;> rfl) | (simp [*, errW_none, errW_some] <;> rfl), by repeat (first | (with_reducible first | exact HB.out | apply below_alloc | apply pw_below_drewN | apply below_drew1) | exact HB.out)⟩
          · rw [if_neg c7] at H
            exact absurd H (by simp)
        · rw [if_neg c6] at H
          exact absurd H (by simp)
      · rw [if_neg c5] at H
        have c5b0 : decide (x33_1 < (l1.length : Int)) = false := decide_eq_false c5
        clear c5
        obtain ⟨ji85, hji85⟩ : ∃ j_ : Int, (wrap64 (1 + (wrap64 (Int.tmod (IntKind.u64.wrap (a0)) 200)))) = j_ := ⟨_, rfl⟩
        replace H : (if 0 ≤ (ji85) then (if ((ji85) : Int).toNat ≤ 35184372088832 then ((extent_Sectors.f x5_1).bind fun t314 => (reeflaw09_ExtentMoves.l1 k1 x6_1 (List.replicate ((ji85) : Int).toNat 0) t314 (t314.length : Int) 0)) else (none)) else (none)) = some r := by first | (rw [hji85] at H; exact H) | (simp only [hji85] at H ⊢; exact H)
        have hji85w : (IntKind.i64.wrap (1 + (wrap64 (Int.tmod (IntKind.u64.wrap (a0)) 200)))) = ji85 := (i64_w _).trans hji85
        by_cases c86 : 0 ≤ (ji85)
        · rw [if_pos c86] at H
          have c86b0 := eq_true c86
          have c86b1 : decide (0 ≤ (ji85)) = true := decide_eq_true c86
          clear c86
          by_cases c87 : ((ji85) : Int).toNat ≤ 35184372088832
          · rw [if_pos c87] at H
            have c87b0 := eq_true c87
            have c87b1 : decide (((ji85) : Int).toNat ≤ 35184372088832) = true := decide_eq_true c87
            clear c87
            obtain ⟨y311, hy311⟩ : ∃ y_ : List Int, y_ = (List.replicate ((ji85) : Int).toNat 0) := ⟨_, rfl⟩
            replace H : ((extent_Sectors.f x5_1).bind fun t314 => (reeflaw09_ExtentMoves.l1 k1 x6_1 y311 t314 (t314.length : Int) 0)) = some r := by first | (rw [hy311]; with_reducible exact H) | (have H2_ := (Option.bind_some _ _).symm.trans H; rw [hy311]; with_reducible exact H2_) | (have H2_ := (Option.bind_some _ _).symm.trans H; with_reducible exact H2_) | with_reducible exact H | (rw [hy311]; exact H) | exact H
            have Ny311 := Aside0.mk hy311
            clear hy311
            replace H := Option.bind_eq_some_iff.mp H
            obtain ⟨t314, A880, H⟩ := H
            replace H : (reeflaw09_ExtentMoves.l1 k1 x6_1 y311 t314 (t314.length : Int) 0) = some r := H
            have A88 := Aside0.mk A880
            clear A880
            have H' := Aside0.mk H
            clear H
            go_wp2_with (first | ((with_reducible refine gate_dst (N := 93) rfl ?_); refine Kd.R_make (Kd.int .i64) _ 3 rfl (N := 93) rfl 38 _ _ rfl (ji85) (by first | rfl | exact congrArg (Value.int .i64) hji85) (by first | rfl | exact congrArg (Value.int .i64) hji85) Try.underlying38 (.int .i64 0) 8 info3 rfl (by decide) (by omega) 0 (ok := fun _ => True) (okp := fun _ => True) rfl (fun _ hk => hk) trivial (of_decide_eq_true (by first | (with_reducible assumption) | assumption)) (Nat.le_trans (Nat.mul_le_mul_right _ (of_decide_eq_true (by first | (with_reducible assumption) | assumption) : (ji85).toNat ≤ 35184372088832)) (by omega)) (Below.refl _ _) (Nat.le_refl _) ?_; intro v312 w89 ho90 hb hg_ hnew_; clear hg_ hnew_; (first | rw [← Ny311.out] at ho90 | (simp only [Int.reduceToNat] at ho90; rw [← Ny311.out] at ho90)); have n0_ := Aside0.mk (Kd.R_below (by (with_reducible repeat (first | apply Kd.R_alloc | apply Kd.R_drewN | apply Kd.R_drew)); exact HO_5.out) hb); have n1_ := Aside0.mk (Kd.N_elder' (by (with_reducible repeat (first | apply Kd.N_alloc | apply Kd.N_drewN | apply Kd.N_drew)); exact HO_6.out) (Kd.R_base ho90) hb); have n2_ := Aside0.mk (Kd.R_lower ho90 (below_size (by repeat (first | (with_reducible first | exact HB.out | apply below_alloc | apply pw_below_drewN | apply below_drew1) | exact HB.out)))); have n3_ := Aside0.mk (below_step (by repeat (first | (with_reducible first | exact HB.out | apply below_alloc | apply pw_below_drewN | apply below_drew1) | exact HB.out)) hb); clear HO_5; clear HO_6; clear HB; have HO_5 := n0_; have HO_6 := n1_; have HO313 := n2_; have HB := n3_; clear n0_ n1_ n2_ n3_; clear hb ho90; obtain ⟨Ao91, co91, eo91⟩ := Kd.R_slice HO_5.out; subst eo91) | ((with_reducible refine gate_callee (f := 19) rfl ?_); refine goesL_ (some 95) rfl rfl Try.func19 (by kernel_rfl) rfl #[.slice Ao91 x5_1.length co91] rfl (by (try simp only [List.map_toArray, List.map_cons, List.map_nil]); first | done | rfl | (simp only [List.length_drop, List.length_take]; rfl)) ?_; (with_reducible refine (extent_Sectors.calls _ _ x5_1 t314 _ ?side1 ?side2 A88.out).mono ?_); (case side1 => repeat (first | exact (Kd.R_reads' HO_5.out).2.2 | (with_reducible refine Kd.C_alloc ?_ _) | (with_reducible refine Kd.C_drewN ?_ _) | (with_reducible refine Kd.C_drew ?_))); (case side2 => exact (Kd.R_reads' HO_5.out).2.1); rintro e w92 ⟨v315, rfl, ho0, hb⟩; refine ⟨_, rfl, ?_⟩; have n0_ := Aside0.mk (Kd.R_below (by (with_reducible repeat (first | apply Kd.R_alloc | apply Kd.R_drewN | apply Kd.R_drew)); exact HO_5.out) hb); have n1_ := Aside0.mk (Kd.N_elder' (by (with_reducible repeat (first | apply Kd.N_alloc | apply Kd.N_drewN | apply Kd.N_drew)); exact HO_6.out) (Kd.R_base ho0) hb); have n2_ := Aside0.mk (Kd.R_elder' (by (with_reducible repeat (first | apply Kd.R_alloc | apply Kd.R_drewN | apply Kd.R_drew)); exact HO313.out) (Kd.R_base ho0) hb); have n3_ := Aside0.mk (Kd.R_lower (Kd.R_new' ho0 (Kd.R_lt (by (with_reducible repeat (first | apply Kd.R_alloc | apply Kd.R_drewN | apply Kd.R_drew)); exact HO313.out))) (below_size (by repeat (first | (with_reducible first | exact HB.out | apply below_alloc | apply pw_below_drewN | apply below_drew1) | exact HB.out)))); have n4_ := Aside0.mk (below_step (by repeat (first | (with_reducible first | exact HB.out | apply below_alloc | apply pw_below_drewN | apply below_drew1) | exact HB.out)) hb); clear HO_5; clear HO_6; clear HO313; clear HB; have HO_5 := n0_; have HO_6 := n1_; have HO313 := n2_; have HO316 := n3_; have HB := n4_; clear n0_ n1_ n2_ n3_ n4_; (try clear hb); (try clear hb2); (try clear hk); (try clear hi); (try clear ho0); obtain ⟨Ao93, co93, eo93⟩ := Kd.R_slice HO316.out; subst eo93))
            go_loopg [97] k1 (fun kq v97 w' => ∃ (x15_2 : List Int) (x97_2 : Int), v97 = .int .i64 x97_2 ∧ Aside0 (reeflaw09_ExtentMoves.l1 kq x6_1 x15_2 t314 (t314.length : Int) x97_2 = some r) ∧ Aside0 (kq ≤ k1) ∧ Aside0 (Kd.N (Kd.slice 47 k47) 22 w' w.heap.size (fun k_ => some k_ ≠ (v312 : Value).ownBlock ∧ some k_ ≠ ((.slice Ao93 t314.length co93) : Value).ownBlock) u6 x6_1) ∧ Aside0 (Kd.R (Kd.int .i64) 3 w' w.heap.size (fun k_ => some k_ ≠ ((.slice Ao93 t314.length co93) : Value).ownBlock) v312 x15_2) ∧ Aside0 (Kd.R (Kd.int .i64) 3 w' w.heap.size (fun k_ => some k_ ≠ (v312 : Value).ownBlock) (.slice Ao93 t314.length co93) t314) ∧ Aside0 (Below w.heap.size w w'))
            case atStart => exact ⟨(y311), (0), (by first | rfl | (simp; done) | (simp [*]; done)), H', ⟨Nat.le_refl _⟩, ⟨by (with_reducible repeat (first | apply Kd.N_alloc | apply Kd.N_drewN | apply Kd.N_drew)); exact Kd.N_mono HO_6.out (fun _ hk => ⟨hk.1.2, hk.2⟩)⟩, ⟨by (with_reducible repeat (first | apply Kd.R_alloc | apply Kd.R_drewN | apply Kd.R_drew)); exact Kd.R_mono HO313.out (fun _ hk => hk.2)⟩, ⟨by (with_reducible repeat (first | apply Kd.R_alloc | apply Kd.R_drewN | apply Kd.R_drew)); exact Kd.R_mono HO316.out (fun _ hk => hk.2)⟩, ⟨by repeat (first | (with_reducible first | exact HB.out | apply below_alloc | apply pw_below_drewN | apply below_drew1) | exact HB.out)⟩⟩
            case round =>
              clear H'
              try clear c1
              try clear c2
              try clear p2
              try clear q2
              try clear hx2
              try clear c3
              try clear c4
              try clear c5
              try clear c5b0
              try clear c6
              try clear p6
              try clear q6
              try clear c7
              try clear c8
              try clear c15
              try clear c19
              try clear p27
              try clear q27
              try clear hx27
              try clear c28
              try clear p28
              try clear q28
              try clear hx28
              try clear c34
              try clear c34b0
              try clear c34b1
              try clear c37
              try clear c38
              try clear c40
              try clear c40b0
              try clear c40b1
              try clear c42
              try clear c43
              try clear c45
              try clear c46
              try clear c47
              try clear c49
              try clear p64
              try clear q66
              try clear c67
              try clear q67
              try clear c78
              try clear c86
              try clear c86b0
              try clear c86b1
              try clear c87
              try clear c87b0
              try clear c87b1
              try clear hx272_0
              try clear hx285_0
              try clear p272
              try clear p285
              try clear q067
              try clear q272
              try clear q285
              try clear q66
              try clear q67
              obtain ⟨x15_2, x97_2, rfl, HA, HK2, HO_6, HO_15, HO_95, HB⟩ := hrel
              cases gk with
              | zero => exact absurd HA.out (by simp [reeflaw09_ExtentMoves.l1])
              | succ k2 =>
                have H := HA.out
                clear HA
                simp only [reeflaw09_ExtentMoves.l1] at H
                by_cases c94 : x97_2 < (t314.length : Int)
                · rw [if_pos c94] at H
                  have c94b0 : decide (x97_2 < (t314.length : Int)) = true := decide_eq_true c94
                  clear c94
                  by_cases c95 : 0 ≤ x97_2
                  · rw [if_pos c95] at H
                    have c95b0 : decide (0 ≤ x97_2) = true := decide_eq_true c95
                    clear c95
                    by_cases c96 : x97_2 < (t314.length : Int)
                    · rw [if_pos c96] at H
                      have c96b0 : decide (x97_2 < (t314.length : Int)) = true := decide_eq_true c96
                      clear c96
                      by_cases c97 : 0 ≤ (rd t314 x97_2)
                      · rw [if_pos c97] at H
                        have c97b0 : decide (0 ≤ (rd t314 x97_2)) = true := decide_eq_true c97
                        clear c97
                        by_cases c98 : (rd t314 x97_2) < (x15_2.length : Int)
                        · rw [if_pos c98] at H
                          have c98b0 : decide ((rd t314 x97_2) < (x15_2.length : Int)) = true := decide_eq_true c98
                          clear c98
                          obtain ⟨y319, hy319⟩ : ∃ y_ : List Int, y_ = (x15_2.set ((rd t314 x97_2) : Int).toNat (wrap64 ((rd x15_2 (rd t314 x97_2)) + 1))) := ⟨_, rfl⟩
                          replace H : (reeflaw09_ExtentMoves.l1 k2 x6_1 y319 t314 (t314.length : Int) (wrap64 (x97_2 + 1))) = some r := by first | (rw [hy319]; with_reducible exact H) | (have H2_ := (Option.bind_some _ _).symm.trans H; rw [hy319]; with_reducible exact H2_) | (have H2_ := (Option.bind_some _ _).symm.trans H; with_reducible exact H2_) | with_reducible exact H | (rw [hy319]; exact H) | exact H
                          have Ny319 := Aside0.mk hy319
                          clear hy319
                          have H' := Aside0.mk H
                          clear H
                          have p317 : 0 ≤ (x97_2 : Int) := of_decide_eq_true (by first | (with_reducible assumption) | assumption)
                          have q317 : x97_2 < (t314.length : Int) := of_decide_eq_true (by first | (with_reducible assumption) | assumption)
                          obtain ⟨ad317, e317, hx317_0⟩ := Kd.at_int (Kd.R_reads' HO_95.out).2.2 x97_2 p317 q317
                          cases e317
                          replace p317 := eq_true p317
                          replace q317 := eq_true q317
                          obtain ⟨Ao100, co100, eo100⟩ := Kd.R_slice HO_15.out
                          subst eo100
                          have p318 : 0 ≤ ((rd t314 x97_2) : Int) := of_decide_eq_true (by first | (with_reducible assumption) | assumption)
                          have q318 : (rd t314 x97_2) < (x15_2.length : Int) := of_decide_eq_true (by first | (with_reducible assumption) | assumption)
                          obtain ⟨ad318, e318, hx318_0⟩ := Kd.at_int (Kd.R_reads' HO_15.out).2.2 (rd t314 x97_2) p318 q318
                          cases e318
                          replace p318 := eq_true p318
                          replace q318 := eq_true q318
                          have p99 : 0 ≤ ((rd t314 x97_2) : Int) := of_decide_eq_true (by first | (with_reducible assumption) | assumption)
                          have q99 : ((rd t314 x97_2) : Int) < ((x15_2.length : Int) : Int) := of_decide_eq_true (by first | (with_reducible assumption) | assumption)
                          obtain ⟨go99, co99, eo99, gb99, gl99, cl99, HG99⟩ := Kd.R_form HO_15.out (by omega)
                          (first | cases eo99 | (injection eo99 with ea_ en_ ec_; (first | subst ea_ | (injection ea_ with ea_; subst ea_)); subst ec_; clear en_))
                          have GB99 := Aside0.mk gb99
                          have GG99 := Aside0.mk HG99
                          clear gb99 gl99 HG99
                          (first | simp only [add_plain] at hx318_0 | skip)
                          obtain ⟨hx99_0, hf99_0⟩ := Kd.R_celln 0 HO_15.out ((rd t314 x97_2) : Int) p99 q99
                          replace p99 := eq_true p99
                          replace q99 := eq_true q99
                          have HP101 := Kd.R_putg HO_15.out ((rd t314 x97_2) : Int) (wrap64 ((rd x15_2 (rd t314 x97_2)) + 1))
                          go_wp2_with (first | ((with_reducible refine gate_store (t := 3) (p := 106) rfl ?_); refine store_event (t := 3) (p := 106) (v := ?vo_w102) (w1 := (wr.setCell ⟨go99, ((rd t314 x97_2) : Int).toNat, none⟩ (.int .i64 (wrap64 ((rd x15_2 (rd t314 x97_2)) + 1))))) ?hg ?ho ?hn ?hr ?_; (case ho => rfl); (case hg => rfl); (case hn => rfl); (case hr => first | (go_simp; done) | (go_simp; rfl)); intro w102 hw; have hg : wr.grownBy w102 (some go99) := (by rw [hw]; exact HP101.2); have hp_ : Kd.R (Kd.int .i64) 3 w102 w.heap.size (fun k_ => some k_ ≠ (.slice (some ad317) t314.length co93 : Value).ownBlock) (.slice (some ⟨go99, 0, none⟩) x15_2.length co100) y319 := (by rw [hw, Ny319.out]; exact HP101.1); clear HP101; have n0_ := Aside0.mk (Kd.N_afterv (v := (.slice (some ⟨go99, 0, none⟩) x15_2.length co100)) (v1 := (.slice (some ⟨go99, 0, none⟩) x15_2.length co100)) (ok := (fun k_ => some k_ ≠ (.slice (some ad317) t314.length co93 : Value).ownBlock)) (by (with_reducible repeat (first | apply Kd.N_alloc | apply Kd.N_drewN | apply Kd.N_drew)); exact Kd.N_mono HO_6.out (fun _ hk => ⟨hk.2, hk.1⟩)) hg (.inl rfl)); have n1_ := Aside0.mk (hp_); have n2_ := Aside0.mk (Kd.R_after (v := (.slice (some ⟨go99, 0, none⟩) x15_2.length co100)) (v1 := (.slice (some ⟨go99, 0, none⟩) x15_2.length co100)) (ok := (fun _ => True)) (by (with_reducible repeat (first | apply Kd.R_alloc | apply Kd.R_drewN | apply Kd.R_drew)); exact Kd.R_mono HO_95.out (fun _ hk => ⟨trivial, hk⟩)) hg (.inl rfl)); have n3_ := Aside0.mk ((by rw [hw]; exact below_set (HB.out) GB99.out : Below w.heap.size w w102)); clear HO_6; clear HO_15; clear HO_95; clear HB; have HO_6 := n0_; have HO_15 := n1_; have HO_95 := n2_; have HB := n3_; clear n0_ n1_ n2_ n3_; clear hg hw hp_))
                          go_roundg k2
                          case measure => have := HK1.out; have := HK2.out; omega
                          case rel => exact ⟨(y319), (wrap64 (x97_2 + 1)), (by first | rfl | (simp; done) | (simp [*]; done)), H', ⟨by have := HK1.out; have := HK2.out; omega⟩, ⟨by (with_reducible repeat (first | apply Kd.N_alloc | apply Kd.N_drewN | apply Kd.N_drew)); exact Kd.N_mono HO_6.out (fun _ hk => ⟨hk.2, hk.1⟩)⟩, ⟨by (with_reducible repeat (first | apply Kd.R_alloc | apply Kd.R_drewN | apply Kd.R_drew)); exact HO_15.out⟩, ⟨by (with_reducible repeat (first | apply Kd.R_alloc | apply Kd.R_drewN | apply Kd.R_drew)); exact Kd.R_mono HO_95.out (fun _ hk => hk.2)⟩, ⟨by repeat (first | (with_reducible first | exact HB.out | apply below_alloc | apply pw_below_drewN | apply below_drew1) | exact HB.out)⟩⟩
                        · rw [if_neg c98] at H
                          exact absurd H (by simp)
                      · rw [if_neg c97] at H
                        exact absurd H (by simp)
                    · rw [if_neg c96] at H
                      exact absurd H (by simp)
                  · rw [if_neg c95] at H
                    exact absurd H (by simp)
                · rw [if_neg c94] at H
                  have c94b0 : decide (x97_2 < (t314.length : Int)) = false := decide_eq_false c94
                  clear c94
                  have H' := Aside0.mk H
                  clear H
                  obtain ⟨Ao103, co103, eo103⟩ := Kd.N_slice HO_6.out
                  subst eo103
                  go_wp2
                  go_loopg [110] k2 (fun kq v110 w' => ∃ (x15_3 : List Int) (x110_3 : Int), v110 = .int .i64 x110_3 ∧ Aside0 (reeflaw09_ExtentMoves.l2 kq x15_3 x6_1 (x6_1.length : Int) x110_3 = some r) ∧ Aside0 (kq ≤ k2) ∧ Aside0 (Kd.R (Kd.int .i64) 3 w' w.heap.size (fun _ => True) v312 x15_3) ∧ Aside0 (Kd.N (Kd.slice 47 k47) 22 w' w.heap.size (fun k_ => some k_ ≠ (v312 : Value).ownBlock) (.slice Ao103 x6_1.length co103) x6_1) ∧ Aside0 (Below w.heap.size w w'))
                  case atStart => exact ⟨(x15_2), (0), (by first | rfl | (simp; done) | (simp [*]; done)), H', ⟨Nat.le_refl _⟩, ⟨by (with_reducible repeat (first | apply Kd.R_alloc | apply Kd.R_drewN | apply Kd.R_drew)); exact Kd.R_mono HO_15.out (fun _ hk => trivial)⟩, ⟨by (with_reducible repeat (first | apply Kd.N_alloc | apply Kd.N_drewN | apply Kd.N_drew)); exact Kd.N_mono HO_6.out (fun _ hk => hk.1)⟩, ⟨by repeat (first | (with_reducible first | exact HB.out | apply below_alloc | apply pw_below_drewN | apply below_drew1) | exact HB.out)⟩⟩
                  case round =>
                    clear H'
                    try clear c1
                    try clear c2
                    try clear p2
                    try clear q2
                    try clear hx2
                    try clear c3
                    try clear p3
                    try clear q3
                    try clear hx3
                    try clear c4
                    try clear c5
                    try clear c5b0
                    try clear c6
                    try clear p6
                    try clear q6
                    try clear c7
                    try clear c8
                    try clear c9
                    try clear p9
                    try clear q9
                    try clear hx9
                    try clear hf9
                    try clear c15
                    try clear c19
                    try clear p27
                    try clear q27
                    try clear hx27
                    try clear c28
                    try clear p28
                    try clear q28
                    try clear hx28
                    try clear p31
                    try clear q31
                    try clear hx31
                    try clear c34
                    try clear c34b0
                    try clear c34b1
                    try clear c37
                    try clear c38
                    try clear c40
                    try clear c40b0
                    try clear c40b1
                    try clear c42
                    try clear c43
                    try clear c45
                    try clear c46
                    try clear c47
                    try clear c49
                    try clear p64
                    try clear q66
                    try clear c67
                    try clear q67
                    try clear c78
                    try clear c86
                    try clear c86b0
                    try clear c86b1
                    try clear c87
                    try clear c87b0
                    try clear c87b1
                    try clear c94
                    try clear c94b0
                    try clear c95
                    try clear c95b0
                    try clear c96
                    try clear c96b0
                    try clear c97
                    try clear c97b0
                    try clear c98
                    try clear c98b0
                    try clear p99
                    try clear q99
                    try clear hx99
                    try clear hf99
                    try clear hx272_0
                    try clear hx285_0
                    try clear hx317_0
                    try clear hx318_0
                    try clear hx99_0
                    try clear p2
                    try clear p27
                    try clear p272
                    try clear p28
                    try clear p285
                    try clear p317
                    try clear p318
                    try clear p6
                    try clear p64
                    try clear p99
                    try clear q067
                    try clear q2
                    try clear q27
                    try clear q272
                    try clear q28
                    try clear q285
                    try clear q317
                    try clear q318
                    try clear q6
                    try clear q66
                    try clear q67
                    try clear q99
                    obtain ⟨x15_3, x110_3, rfl, HA, HK3, HO_15, HO_108, HB⟩ := hrel
                    cases gk with
                    | zero => exact absurd HA.out (by simp [reeflaw09_ExtentMoves.l2])
                    | succ k3 =>
                      have H := HA.out
                      clear HA
                      simp only [reeflaw09_ExtentMoves.l2] at H
                      by_cases c104 : x110_3 < (x6_1.length : Int)
                      · rw [if_pos c104] at H
                        have c104b0 : decide (x110_3 < (x6_1.length : Int)) = true := decide_eq_true c104
                        clear c104
                        by_cases c105 : 0 ≤ x110_3
                        · rw [if_pos c105] at H
                          have c105b0 : decide (0 ≤ x110_3) = true := decide_eq_true c105
                          clear c105
                          by_cases c106 : x110_3 < (x6_1.length : Int)
                          · rw [if_pos c106] at H
                            have c106b0 : decide (x110_3 < (x6_1.length : Int)) = true := decide_eq_true c106
                            clear c106
                            replace H := Option.bind_eq_some_iff.mp H
                            obtain ⟨t321, A1070, H⟩ := H
                            replace H : (reeflaw09_ExtentMoves.l3 k3 x15_3 x6_1 (x6_1.length : Int) x110_3 t321 (t321.length : Int) 0) = some r := H
                            have A107 := Aside0.mk A1070
                            clear A1070
                            have H' := Aside0.mk H
                            clear H
                            have p320 : 0 ≤ (x110_3 : Int) := of_decide_eq_true (by first | (with_reducible assumption) | assumption)
                            have q320 : x110_3 < (x6_1.length : Int) := of_decide_eq_true (by first | (with_reducible assumption) | assumption)
                            obtain ⟨ad320, A320_0, c320_0, e320, hx320_0, hl320_0, hi320_0⟩ := at_L3 (Kd.N_reads' HO_108.out).2.2 x110_3 p320 q320
                            cases e320
                            obtain ⟨ce320, hce320, hMe320, hcc320⟩ := Kd.N_get HO_108.out [] x110_3 p320 (by first | exact q320 | exact of_decide_eq_true (by first | (with_reducible assumption) | assumption) | (have e_ := (Kd.N_reads' HO_108.out).1; omega))
                            obtain ⟨ua320_0, uc320_0, rfl, ul320_0, ge320_0⟩ := Kd.FK_slice_open hMe320
                            have hv320_0 := hcc320 0 _ rfl
                            rw [Nat.add_zero, show ((Kd.slice 47 k47)).sz = 1 from rfl, Nat.mul_one] at hv320_0
                            replace hv320_0 := Option.some.inj (hv320_0.symm.trans hx320_0)
                            injection hv320_0 with hva_ hvn_ hvc_
                            rw [hva_] at ge320_0
                            rw [hvc_] at ul320_0
                            have HL320_0 := Aside0.mk (show Kd.V k47 47 _ w.heap.size _ _ (rd_L3 x6_1 x110_3) from Kd.V_mk ul320_0 ge320_0)
                            clear hva_ hvn_ hvc_ ge320_0 ul320_0
                            clear hcc320 hce320
                            have HR320_0 := Aside0.mk hi320_0
                            have HC320_0 := Aside0.mk hl320_0
                            clear hi320_0 hl320_0
                            replace p320 := eq_true p320
                            replace q320 := eq_true q320
                            go_wp2_with (first | ((with_reducible refine gate_callee (f := 19) rfl ?_); refine goesL_ (some 115) rfl rfl Try.func19 (by kernel_rfl) rfl #[.slice A320_0 (rd_L3 x6_1 x110_3).length c320_0] rfl (by (try simp only [List.map_toArray, List.map_cons, List.map_nil]); first | done | rfl | (simp only [List.length_drop, List.length_take]; rfl)) ?_; (with_reducible refine (extent_Sectors.calls _ _ (rd_L3 x6_1 x110_3) t321 _ ?side1 ?side2 A107.out).mono ?_); (case side1 => repeat (first | exact (by repeat (first | (with_reducible exact HR320_0.out) | (with_reducible refine Kd.C_alloc ?_ _) | (with_reducible refine Kd.C_drewN ?_ _) | (with_reducible refine Kd.C_drew ?_) | exact HR320_0.out)) | (with_reducible refine Kd.C_alloc ?_ _) | (with_reducible refine Kd.C_drewN ?_ _) | (with_reducible refine Kd.C_drew ?_))); (case side2 => exact HC320_0.out); rintro e w108 ⟨v322, rfl, ho0, hb⟩; refine ⟨_, rfl, ?_⟩; have n0_ := Aside0.mk (Kd.R_elder' (by (with_reducible repeat (first | apply Kd.R_alloc | apply Kd.R_drewN | apply Kd.R_drew)); exact HO_15.out) (Kd.R_base ho0) hb); have n1_ := Aside0.mk (Kd.N_elder' (by (with_reducible repeat (first | apply Kd.N_alloc | apply Kd.N_drewN | apply Kd.N_drew)); exact HO_108.out) (Kd.R_base ho0) hb); have n2_ := Aside0.mk (Kd.V_elder' (by (with_reducible repeat (first | apply Kd.V_alloc | apply Kd.V_drewN | apply Kd.V_drew)); exact HL320_0.out) (Kd.R_base ho0) hb); have n3_ := Aside0.mk (Kd.R_lower (Kd.R_new' ho0 (Kd.R_lt (by (with_reducible repeat (first | apply Kd.R_alloc | apply Kd.R_drewN | apply Kd.R_drew)); exact HO_15.out))) (below_size (by repeat (first | (with_reducible first | exact HB.out | apply below_alloc | apply pw_below_drewN | apply below_drew1) | exact HB.out)))); have n4_ := Aside0.mk (Kd.C_below (by repeat (first | (with_reducible exact HR320_0.out) | (with_reducible refine Kd.C_alloc ?_ _) | (with_reducible refine Kd.C_drewN ?_ _) | (with_reducible refine Kd.C_drew ?_) | exact HR320_0.out)) hb); have n5_ := Aside0.mk (below_step (by repeat (first | (with_reducible first | exact HB.out | apply below_alloc | apply pw_below_drewN | apply below_drew1) | exact HB.out)) hb); clear HO_15; clear HO_108; clear HL320_0; clear HR320_0; clear HB; have HO_15 := n0_; have HO_108 := n1_; have HL320_0 := n2_; have HO323 := n3_; have HR320_0 := n4_; have HB := n5_; clear n0_ n1_ n2_ n3_ n4_ n5_; (try clear hb); (try clear hb2); (try clear hk); (try clear hi); (try clear ho0); obtain ⟨Ao109, co109, eo109⟩ := Kd.R_slice HO323.out; subst eo109))
                            go_loopg [117] k3 (fun kq v117 w' => ∃ (x15_4 : List Int) (x117_4 : Int), v117 = .int .i64 x117_4 ∧ Aside0 (reeflaw09_ExtentMoves.l3 kq x15_4 x6_1 (x6_1.length : Int) x110_3 t321 (t321.length : Int) x117_4 = some r) ∧ Aside0 (kq ≤ k3) ∧ Aside0 (Kd.R (Kd.int .i64) 3 w' w.heap.size (fun k_ => some k_ ≠ ((.slice Ao109 t321.length co109) : Value).ownBlock) v312 x15_4) ∧ Aside0 (Kd.N (Kd.slice 47 k47) 22 w' w.heap.size (fun k_ => some k_ ≠ (v312 : Value).ownBlock ∧ some k_ ≠ ((.slice Ao109 t321.length co109) : Value).ownBlock) (.slice (some ad320) x6_1.length co103) x6_1) ∧ Aside0 (Kd.R (Kd.int .i64) 3 w' w.heap.size (fun k_ => some k_ ≠ (v312 : Value).ownBlock) (.slice Ao109 t321.length co109) t321) ∧ Aside0 (Below w.heap.size w w'))
                            case atStart => exact ⟨(x15_3), (0), (by first | rfl | (simp; done) | (simp [*]; done)), H', ⟨Nat.le_refl _⟩, ⟨by (with_reducible repeat (first | apply Kd.R_alloc | apply Kd.R_drewN | apply Kd.R_drew)); exact Kd.R_mono HO_15.out (fun _ hk => hk.2)⟩, ⟨by (with_reducible repeat (first | apply Kd.N_alloc | apply Kd.N_drewN | apply Kd.N_drew)); exact HO_108.out⟩, ⟨by (with_reducible repeat (first | apply Kd.R_alloc | apply Kd.R_drewN | apply Kd.R_drew)); exact Kd.R_mono HO323.out (fun _ hk => hk.2)⟩, ⟨by repeat (first | (with_reducible first | exact HB.out | apply below_alloc | apply pw_below_drewN | apply below_drew1) | exact HB.out)⟩⟩
                            case round =>
                              clear H'
                              try clear c1
                              try clear c2
                              try clear p2
                              try clear q2
                              try clear hx2
                              try clear c3
                              try clear p3
                              try clear q3
                              try clear hx3
                              try clear c4
                              try clear c5
                              try clear c5b0
                              try clear c6
                              try clear p6
                              try clear q6
                              try clear c7
                              try clear c8
                              try clear c9
                              try clear p9
                              try clear q9
                              try clear hx9
                              try clear hf9
                              try clear c10
                              try clear c15
                              try clear c19
                              try clear p27
                              try clear q27
                              try clear hx27
                              try clear c28
                              try clear p28
                              try clear q28
                              try clear hx28
                              try clear p31
                              try clear q31
                              try clear hx31
                              try clear c32
                              try clear p32
                              try clear q32
                              try clear hx32
                              try clear c34
                              try clear c34b0
                              try clear c34b1
                              try clear c37
                              try clear c38
                              try clear c40
                              try clear c40b0
                              try clear c40b1
                              try clear c42
                              try clear c43
                              try clear c45
                              try clear c46
                              try clear c47
                              try clear c49
                              try clear p64
                              try clear q66
                              try clear c67
                              try clear q67
                              try clear c78
                              try clear c86
                              try clear c86b0
                              try clear c86b1
                              try clear c87
                              try clear c87b0
                              try clear c87b1
                              try clear c94
                              try clear c94b0
                              try clear c95
                              try clear c95b0
                              try clear c96
                              try clear c96b0
                              try clear c97
                              try clear c97b0
                              try clear c98
                              try clear c98b0
                              try clear p99
                              try clear q99
                              try clear hx99
                              try clear hf99
                              try clear c104
                              try clear c104b0
                              try clear c105
                              try clear c105b0
                              try clear c106
                              try clear c106b0
                              try clear hx272_0
                              try clear hx285_0
                              try clear hx317_0
                              try clear hx318_0
                              try clear hx320_0
                              try clear hx99_0
                              try clear p2
                              try clear p27
                              try clear p272
                              try clear p28
                              try clear p285
                              try clear p3
                              try clear p31
                              try clear p317
                              try clear p318
                              try clear p320
                              try clear p6
                              try clear p64
                              try clear p9
                              try clear p99
                              try clear q067
                              try clear q2
                              try clear q27
                              try clear q272
                              try clear q28
                              try clear q285
                              try clear q3
                              try clear q31
                              try clear q317
                              try clear q318
                              try clear q320
                              try clear q6
                              try clear q66
                              try clear q67
                              try clear q9
                              try clear q99
                              obtain ⟨x15_4, x117_4, rfl, HA, HK4, HO_15, HO_108, HO_115, HB⟩ := hrel
                              cases gk with
                              | zero => exact absurd HA.out (by simp [reeflaw09_ExtentMoves.l3])
                              | succ k4 =>
                                have H := HA.out
                                clear HA
                                simp only [reeflaw09_ExtentMoves.l3] at H
                                by_cases c110 : x117_4 < (t321.length : Int)
                                · rw [if_pos c110] at H
                                  have c110b0 : decide (x117_4 < (t321.length : Int)) = true := decide_eq_true c110
                                  clear c110
                                  by_cases c111 : 0 ≤ x117_4
                                  · rw [if_pos c111] at H
                                    have c111b0 : decide (0 ≤ x117_4) = true := decide_eq_true c111
                                    clear c111
                                    by_cases c112 : x117_4 < (t321.length : Int)
                                    · rw [if_pos c112] at H
                                      have c112b0 : decide (x117_4 < (t321.length : Int)) = true := decide_eq_true c112
                                      clear c112
                                      by_cases c113 : 0 ≤ (rd t321 x117_4)
                                      · rw [if_pos c113] at H
                                        have c113b0 : decide (0 ≤ (rd t321 x117_4)) = true := decide_eq_true c113
                                        clear c113
                                        by_cases c114 : (rd t321 x117_4) < (x15_4.length : Int)
                                        · rw [if_pos c114] at H
                                          have c114b0 : decide ((rd t321 x117_4) < (x15_4.length : Int)) = true := decide_eq_true c114
                                          clear c114
                                          obtain ⟨y326, hy326⟩ : ∃ y_ : List Int, y_ = (x15_4.set ((rd t321 x117_4) : Int).toNat (wrap64 ((rd x15_4 (rd t321 x117_4)) + 1))) := ⟨_, rfl⟩
                                          replace H : (reeflaw09_ExtentMoves.l3 k4 y326 x6_1 (x6_1.length : Int) x110_3 t321 (t321.length : Int) (wrap64 (x117_4 + 1))) = some r := by first | (rw [hy326]; with_reducible exact H) | (have H2_ := (Option.bind_some _ _).symm.trans H; rw [hy326]; with_reducible exact H2_) | (have H2_ := (Option.bind_some _ _).symm.trans H; with_reducible exact H2_) | with_reducible exact H | (rw [hy326]; exact H) | exact H
                                          have Ny326 := Aside0.mk hy326
                                          clear hy326
                                          have H' := Aside0.mk H
                                          clear H
                                          have p324 : 0 ≤ (x117_4 : Int) := of_decide_eq_true (by first | (with_reducible assumption) | assumption)
                                          have q324 : x117_4 < (t321.length : Int) := of_decide_eq_true (by first | (with_reducible assumption) | assumption)
                                          obtain ⟨ad324, e324, hx324_0⟩ := Kd.at_int (Kd.R_reads' HO_115.out).2.2 x117_4 p324 q324
                                          cases e324
                                          replace p324 := eq_true p324
                                          replace q324 := eq_true q324
                                          obtain ⟨Ao116, co116, eo116⟩ := Kd.R_slice HO_15.out
                                          subst eo116
                                          have p325 : 0 ≤ ((rd t321 x117_4) : Int) := of_decide_eq_true (by first | (with_reducible assumption) | assumption)
                                          have q325 : (rd t321 x117_4) < (x15_4.length : Int) := of_decide_eq_true (by first | (with_reducible assumption) | assumption)
                                          obtain ⟨ad325, e325, hx325_0⟩ := Kd.at_int (Kd.R_reads' HO_15.out).2.2 (rd t321 x117_4) p325 q325
                                          cases e325
                                          replace p325 := eq_true p325
                                          replace q325 := eq_true q325
                                          have p115 : 0 ≤ ((rd t321 x117_4) : Int) := of_decide_eq_true (by first | (with_reducible assumption) | assumption)
                                          have q115 : ((rd t321 x117_4) : Int) < ((x15_4.length : Int) : Int) := of_decide_eq_true (by first | (with_reducible assumption) | assumption)
                                          obtain ⟨go115, co115, eo115, gb115, gl115, cl115, HG115⟩ := Kd.R_form HO_15.out (by omega)
                                          (first | cases eo115 | (injection eo115 with ea_ en_ ec_; (first | subst ea_ | (injection ea_ with ea_; subst ea_)); subst ec_; clear en_))
                                          have GB115 := Aside0.mk gb115
                                          have GG115 := Aside0.mk HG115
                                          clear gb115 gl115 HG115
                                          (first | simp only [add_plain] at hx325_0 | skip)
                                          obtain ⟨hx115_0, hf115_0⟩ := Kd.R_celln 0 HO_15.out ((rd t321 x117_4) : Int) p115 q115
                                          replace p115 := eq_true p115
                                          replace q115 := eq_true q115
                                          have HP117 := Kd.R_putg HO_15.out ((rd t321 x117_4) : Int) (wrap64 ((rd x15_4 (rd t321 x117_4)) + 1))
                                          go_wp2_with (first | ((with_reducible refine gate_store (t := 3) (p := 126) rfl ?_); refine store_event (t := 3) (p := 126) (v := ?vo_w118) (w1 := (wr.setCell ⟨go115, ((rd t321 x117_4) : Int).toNat, none⟩ (.int .i64 (wrap64 ((rd x15_4 (rd t321 x117_4)) + 1))))) ?hg ?ho ?hn ?hr ?_; (case ho => rfl); (case hg => rfl); (case hn => rfl); (case hr => first | (go_simp; done) | (go_simp; rfl)); intro w118 hw; have hg : wr.grownBy w118 (some go115) := (by rw [hw]; exact HP117.2); have hp_ : Kd.R (Kd.int .i64) 3 w118 w.heap.size (fun k_ => some k_ ≠ (.slice (some ad324) t321.length co109 : Value).ownBlock) (.slice (some ⟨go115, 0, none⟩) x15_4.length co116) y326 := (by rw [hw, Ny326.out]; exact HP117.1); clear HP117; have n0_ := Aside0.mk (hp_); have n1_ := Aside0.mk (Kd.N_afterv (v := (.slice (some ⟨go115, 0, none⟩) x15_4.length co116)) (v1 := (.slice (some ⟨go115, 0, none⟩) x15_4.length co116)) (ok := (fun k_ => some k_ ≠ (.slice (some ad324) t321.length co109 : Value).ownBlock)) (by (with_reducible repeat (first | apply Kd.N_alloc | apply Kd.N_drewN | apply Kd.N_drew)); exact Kd.N_mono HO_108.out (fun _ hk => ⟨hk.2, hk.1⟩)) hg (.inl rfl)); have n2_ := Aside0.mk (Kd.R_after (v := (.slice (some ⟨go115, 0, none⟩) x15_4.length co116)) (v1 := (.slice (some ⟨go115, 0, none⟩) x15_4.length co116)) (ok := (fun _ => True)) (by (with_reducible repeat (first | apply Kd.R_alloc | apply Kd.R_drewN | apply Kd.R_drew)); exact Kd.R_mono HO_115.out (fun _ hk => ⟨trivial, hk⟩)) hg (.inl rfl)); have n3_ := Aside0.mk ((by rw [hw]; exact below_set (HB.out) GB115.out : Below w.heap.size w w118)); clear HO_15; clear HO_108; clear HO_115; clear HB; have HO_15 := n0_; have HO_108 := n1_; have HO_115 := n2_; have HB := n3_; clear n0_ n1_ n2_ n3_; clear hg hw hp_))
                                          go_roundg k4
                                          case measure => have := HK1.out; have := HK2.out; have := HK3.out; have := HK4.out; omega
                                          case rel => exact ⟨(y326), (wrap64 (x117_4 + 1)), (by first | rfl | (simp; done) | (simp [*]; done)), H', ⟨by have := HK1.out; have := HK2.out; have := HK3.out; have := HK4.out; omega⟩, ⟨by (with_reducible repeat (first | apply Kd.R_alloc | apply Kd.R_drewN | apply Kd.R_drew)); exact HO_15.out⟩, ⟨by (with_reducible repeat (first | apply Kd.N_alloc | apply Kd.N_drewN | apply Kd.N_drew)); exact Kd.N_mono HO_108.out (fun _ hk => ⟨hk.2, hk.1⟩)⟩, ⟨by (with_reducible repeat (first | apply Kd.R_alloc | apply Kd.R_drewN | apply Kd.R_drew)); exact Kd.R_mono HO_115.out (fun _ hk => hk.2)⟩, ⟨by repeat (first | (with_reducible first | exact HB.out | apply below_alloc | apply pw_below_drewN | apply below_drew1) | exact HB.out)⟩⟩
                                        · rw [if_neg c114] at H
                                          exact absurd H (by simp)
                                      · rw [if_neg c113] at H
                                        exact absurd H (by simp)
                                    · rw [if_neg c112] at H
                                      exact absurd H (by simp)
                                  · rw [if_neg c111] at H
                                    exact absurd H (by simp)
                                · rw [if_neg c110] at H
                                  have c110b0 : decide (x117_4 < (t321.length : Int)) = false := decide_eq_false c110
                                  clear c110
                                  have H' := Aside0.mk H
                                  clear H
                                  go_wp2
                                  go_roundg k4
                                  case measure => have := HK1.out; have := HK2.out; have := HK3.out; have := HK4.out; omega
                                  case rel => exact ⟨(x15_4), (wrap64 (x110_3 + 1)), (by first | rfl | (simp; done) | (simp [*]; done)), H', ⟨by have := HK1.out; have := HK2.out; have := HK3.out; have := HK4.out; omega⟩, ⟨by (with_reducible repeat (first | apply Kd.R_alloc | apply Kd.R_drewN | apply Kd.R_drew)); exact Kd.R_mono HO_15.out (fun _ hk => trivial)⟩, ⟨by (with_reducible repeat (first | apply Kd.N_alloc | apply Kd.N_drewN | apply Kd.N_drew)); exact Kd.N_mono HO_108.out (fun _ hk => hk.1)⟩, ⟨by repeat (first | (with_reducible first | exact HB.out | apply below_alloc | apply pw_below_drewN | apply below_drew1) | exact HB.out)⟩⟩
                          · rw [if_neg c106] at H
                            exact absurd H (by simp)
                        · rw [if_neg c105] at H
                          exact absurd H (by simp)
                      · rw [if_neg c104] at H
                        have c104b0 : decide (x110_3 < (x6_1.length : Int)) = false := decide_eq_false c104
                        clear c104
                        have H' := Aside0.mk H
                        clear H
                        obtain ⟨Ao119, co119, eo119⟩ := Kd.R_slice HO_15.out
                        subst eo119
                        go_wp2
                        go_loopg [131] k3 (fun kq v131 w' => ∃ (x131_4 : Int), v131 = .int .i64 x131_4 ∧ Aside0 (reeflaw09_ExtentMoves.l4 kq x15_3 (x15_3.length : Int) x131_4 = some r) ∧ Aside0 (kq ≤ k3) ∧ Aside0 (Kd.R (Kd.int .i64) 3 w' w.heap.size (fun _ => True) (.slice Ao119 x15_3.length co119) x15_3) ∧ Aside0 (Below w.heap.size w w'))
                        case atStart => exact ⟨(0), (by first | rfl | (simp; done) | (simp [*]; done)), H', ⟨Nat.le_refl _⟩, ⟨by (with_reducible repeat (first | apply Kd.R_alloc | apply Kd.R_drewN | apply Kd.R_drew)); exact HO_15.out⟩, ⟨by repeat (first | (with_reducible first | exact HB.out | apply below_alloc | apply pw_below_drewN | apply below_drew1) | exact HB.out)⟩⟩
                        case round =>
                          clear H'
                          try clear c1
                          try clear p1
                          try clear q1
                          try clear hx1
                          try clear c2
                          try clear p2
                          try clear q2
                          try clear hx2
                          try clear c3
                          try clear p3
                          try clear q3
                          try clear hx3
                          try clear c4
                          try clear c5
                          try clear c5b0
                          try clear c6
                          try clear p6
                          try clear q6
                          try clear c7
                          try clear c8
                          try clear c9
                          try clear p9
                          try clear q9
                          try clear hx9
                          try clear hf9
                          try clear c10
                          try clear c11
                          try clear p11
                          try clear q11
                          try clear hx11
                          try clear hf11
                          try clear c15
                          try clear c19
                          try clear p27
                          try clear q27
                          try clear hx27
                          try clear c28
                          try clear p28
                          try clear q28
                          try clear hx28
                          try clear p31
                          try clear q31
                          try clear hx31
                          try clear c32
                          try clear p32
                          try clear q32
                          try clear hx32
                          try clear c34
                          try clear c34b0
                          try clear c34b1
                          try clear c37
                          try clear c38
                          try clear c40
                          try clear c40b0
                          try clear c40b1
                          try clear c42
                          try clear c43
                          try clear c45
                          try clear c46
                          try clear c47
                          try clear c49
                          try clear p64
                          try clear q66
                          try clear c67
                          try clear q67
                          try clear c78
                          try clear c86
                          try clear c86b0
                          try clear c86b1
                          try clear c87
                          try clear c87b0
                          try clear c87b1
                          try clear c94
                          try clear c94b0
                          try clear c95
                          try clear c95b0
                          try clear c96
                          try clear c96b0
                          try clear c97
                          try clear c97b0
                          try clear c98
                          try clear c98b0
                          try clear p99
                          try clear q99
                          try clear hx99
                          try clear hf99
                          try clear c104
                          try clear c104b0
                          try clear c105
                          try clear c105b0
                          try clear c106
                          try clear c106b0
                          try clear c110
                          try clear c110b0
                          try clear c111
                          try clear c111b0
                          try clear c112
                          try clear c112b0
                          try clear c113
                          try clear c113b0
                          try clear c114
                          try clear c114b0
                          try clear p115
                          try clear q115
                          try clear hx115
                          try clear hf115
                          try clear hx115_0
                          try clear hx272_0
                          try clear hx285_0
                          try clear hx317_0
                          try clear hx318_0
                          try clear hx320_0
                          try clear hx324_0
                          try clear hx325_0
                          try clear hx99_0
                          try clear p115
                          try clear p2
                          try clear p27
                          try clear p272
                          try clear p28
                          try clear p285
                          try clear p3
                          try clear p31
                          try clear p317
                          try clear p318
                          try clear p32
                          try clear p320
                          try clear p324
                          try clear p325
                          try clear p6
                          try clear p64
                          try clear p9
                          try clear p99
                          try clear q067
                          try clear q115
                          try clear q2
                          try clear q27
                          try clear q272
                          try clear q28
                          try clear q285
                          try clear q3
                          try clear q31
                          try clear q317
                          try clear q318
                          try clear q32
                          try clear q320
                          try clear q324
                          try clear q325
                          try clear q6
                          try clear q66
                          try clear q67
                          try clear q9
                          try clear q99
                          obtain ⟨x131_4, rfl, HA, HK4, HO_129, HB⟩ := hrel
                          cases gk with
                          | zero => exact absurd HA.out (by simp [reeflaw09_ExtentMoves.l4])
                          | succ k4 =>
                            have H := HA.out
                            clear HA
                            simp only [reeflaw09_ExtentMoves.l4] at H
                            by_cases c120 : x131_4 < (x15_3.length : Int)
                            · rw [if_pos c120] at H
                              have c120b0 : decide (x131_4 < (x15_3.length : Int)) = true := decide_eq_true c120
                              clear c120
                              by_cases c121 : 0 ≤ x131_4
                              · rw [if_pos c121] at H
                                have c121b0 : decide (0 ≤ x131_4) = true := decide_eq_true c121
                                clear c121
                                by_cases c122 : x131_4 < (x15_3.length : Int)
                                · rw [if_pos c122] at H
                                  have c122b0 : decide (x131_4 < (x15_3.length : Int)) = true := decide_eq_true c122
                                  clear c122
                                  by_cases c123 : (rd x15_3 x131_4) = 1
                                  · rw [if_pos c123] at H
                                    have c123b0 : ((rd x15_3 x131_4) == 1) = true := beq_iff_eq.mpr c123
                                    have c123b1 : ((rd x15_3 x131_4) != 1) = false := bne_eq_false_iff_eq.mpr c123
                                    clear c123
                                    have H' := Aside0.mk H
                                    clear H
                                    have p327 : 0 ≤ (x131_4 : Int) := of_decide_eq_true (by first | (with_reducible assumption) | assumption)
                                    have q327 : x131_4 < (x15_3.length : Int) := of_decide_eq_true (by first | (with_reducible assumption) | assumption)
                                    obtain ⟨ad327, e327, hx327_0⟩ := Kd.at_int (Kd.R_reads' HO_129.out).2.2 x131_4 p327 q327
                                    cases e327
                                    replace p327 := eq_true p327
                                    replace q327 := eq_true q327
                                    go_wp2
                                    go_roundg k4
                                    case measure => have := HK1.out; have := HK2.out; have := HK3.out; have := HK4.out; omega
                                    case rel => exact ⟨(wrap64 (x131_4 + 1)), (by first | rfl | (simp; done) | (simp [*]; done)), H', ⟨by have := HK1.out; have := HK2.out; have := HK3.out; have := HK4.out; omega⟩, ⟨by (with_reducible repeat (first | apply Kd.R_alloc | apply Kd.R_drewN | apply Kd.R_drew)); exact HO_129.out⟩, ⟨by repeat (first | (with_reducible first | exact HB.out | apply below_alloc | apply pw_below_drewN | apply below_drew1) | exact HB.out)⟩⟩
                                  · rw [if_neg c123] at H
                                    have c123b0 : ((rd x15_3 x131_4) == 1) = false := beq_eq_false_iff_ne.mpr c123
                                    have c123b1 : ((rd x15_3 x131_4) != 1) = true := bne_iff_ne.mpr c123
                                    obtain rfl := Option.some.inj H
                                    have p327 : 0 ≤ (x131_4 : Int) := of_decide_eq_true (by first | (with_reducible assumption) | assumption)
                                    have q327 : x131_4 < (x15_3.length : Int) := of_decide_eq_true (by first | (with_reducible assumption) | assumption)
                                    obtain ⟨ad327, e327, hx327_0⟩ := Kd.at_int (Kd.R_reads' HO_129.out).2.2 x131_4 p327 q327
                                    cases e327
                                    replace p327 := eq_true p327
                                    replace q327 := eq_true q327
                                    go_wp2
                                    go_ret
                                    exact ⟨by first | rfl | (simp [errW_none, errW_some] <;> rfl) | (simp only [← hji85]; first | rfl | (simp [errW_none, errW_some] <;> rfl)) | (simp [*, errW_none, errW_some] <;> rfl), by repeat (first | (with_reducible first | exact HB.out | apply below_alloc | apply pw_below_drewN | apply below_drew1) | exact HB.out)⟩
                                · rw [if_neg c122] at H
                                  exact absurd H (by simp)
                              · rw [if_neg c121] at H
                                exact absurd H (by simp)
                            · rw [if_neg c120] at H
                              have c120b0 : decide (x131_4 < (x15_3.length : Int)) = false := decide_eq_false c120
                              clear c120
                              replace H := Option.bind_eq_some_iff.mp H
                              obtain ⟨t328, A1240, H⟩ := H
                              replace H : (some t328) = some r := H
                              have A124 := Aside0.mk A1240
                              clear A1240
                              obtain rfl := Option.some.inj H
                              go_wp2_with (first | ((with_reducible refine gate_callee (f := 11) rfl ?_); refine goesL_ (some 138) rfl rfl Try.func11 (by kernel_rfl) rfl #[] rfl (by (try simp only [List.map_toArray, List.map_cons, List.map_nil]); first | done | rfl | (simp only [List.length_drop, List.length_take]; rfl)) ?_; (with_reducible refine (reeflaw09_awake.calls  t328 _ A124.out).mono ?_); rintro e w125 ⟨rfl, hb⟩; refine ⟨_, rfl, ?_⟩; have n0_ := Aside0.mk (Kd.R_below (by (with_reducible repeat (first | apply Kd.R_alloc | apply Kd.R_drewN | apply Kd.R_drew)); exact HO_129.out) hb); have n1_ := Aside0.mk (below_step (by repeat (first | (with_reducible first | exact HB.out | apply below_alloc | apply pw_below_drewN | apply below_drew1) | exact HB.out)) hb); clear HO_129; clear HB; have HO_129 := n0_; have HB := n1_; clear n0_ n1_; (try clear hb); (try clear hb2); (try clear hk); (try clear hi)))
                              go_ret
                              exact ⟨by first | rfl | (simp [errW_none, errW_some] <;> rfl) | (simp only [← hji85]; first | rfl | (simp [errW_none, errW_some] <;> rfl)) | (simp [*, errW_none, errW_some] <;> rfl), by repeat (first | (with_reducible first | exact HB.out | apply below_alloc | apply pw_below_drewN | apply below_drew1) | exact HB.out)⟩
          · rw [if_neg c87] at H
            exact absurd H (by simp)
        · rw [if_neg c86] at H
          exact absurd H (by simp)

/-- THE ONE PURE STATEMENT of reeflaw09_ExtentMoves: yours. -/
def reeflaw09_ExtentMoves.Pure : Prop := ∀ (a0 : Int) (l1 : List Int), (Lit.int .i64 a0).wf = true → l1.length ≤ maxLen → l1.length * 8 ≤ 140737488351232 → (∀ x ∈ l1, (Lit.int .i64 x).wf = true) → ∃ k, reeflaw09_ExtentMoves.f k a0 l1 = some true
theorem reeflaw09_ExtentMoves.walk (P : reeflaw09_ExtentMoves.Pure) (a0 : Int) (a1 : Option Addr) (len1 cap1 : Nat) (z1 : List Int) (w : World) (w0 : (Lit.int .i64 a0).wf = true) (w1 : (a1 = none ∧ len1 = 0 ∧ cap1 = 0 ∧ z1 = []) ∨ ∃ x, a1 = some x ∧ len1 ≤ cap1 ∧ cap1 ≤ maxLen ∧ z1.length = cap1 ∧ (∀ i, i < z1.length → w.cell? (x.add i) = some (.int .i64 (z1.getD i 0))) ∧ ∀ n ∈ z1, (Lit.int .i64 n).wf = true) (y1 : len1 * 8 ≤ 140737488351232) :
    Calls Try.prog 4 #[.int .i64 a0, .slice a1 len1 cap1] w fun e w' => e = .returned (.bool true) ∧ Below w.heap.size w w' := by
  obtain ⟨l1, rfl, hr1, hm1, hw1, hc1⟩ := ReadsInt.ofRowC w1
  obtain ⟨k, h⟩ := P a0 l1 w0 hm1 y1 hw1
  refine (reeflaw09_ExtentMoves.calls k a0 _ _ l1 true w (Kd.C_of_reads (d := (0 : Int)) (h1 := fun _ => rfl) hr1) hc1 h).mono ?_
  rintro e w' ⟨rfl, hd⟩
  exact ⟨rfl, hd⟩

end Go.Proofs.Ytgnaippmncnlaaa.P
