/- Texts of this claim, merged by pack.py: B8 -/
import Derived.Test.YtbdciklcckjknaaZT11
import Derived.Test.YtbdciklcckjknaaZT13
import Derived.Test.YtbdciklcckjknaaZT15
import Derived.Test.YtbdciklcckjknaaZT04
import Derived.Test.YtbdciklcckjknaaZT09
namespace Go.Proofs.Ytbdciklcckjknaa.P
open Go.RowKit Go.Proofs.YtbdciklcckjknaaW.PrintWords Go.Proofs.YtbdciklcckjknaaW.PrintLast Go.Proofs.YtbdciklcckjknaaW.PrintMore Go.Proofs.YtbdciklcckjknaaW.HB
set_option linter.unusedVariables false
set_option linter.unusedSimpArgs false
def bigC (x : S73) : Bool := decide ((4 : Int) ≤ x.f0)
def pgB (p n : Int) : Bool := decide (0 ≤ p) && (decide (p < 2) && (decide (0 ≤ n) && decide (n < 8)))
set_option maxRecDepth 100000 in
set_option maxHeartbeats 8000000 in
theorem fit_one (x : S73) (w : World) : Calls Try.prog 44 #[.agg #[.int .i64 x.f0, .int .i64 x.f1, .int .i64 x.f2, .int .i64 x.f3.f0, .int .i64 x.f3.f1, .int .i64 x.f3.f2, .string x.f3.f3]] w fun e w' => e = .returned (.bool (bigC x)) ∧ Below w.heap.size w w' := by
  have hu := Try.underlying73
  go_enter Try.func44, Try.ntmps44
  go_wp2
  go_ret
  exact ⟨rfl, below_alloc (Below.refl _ _) _⟩
set_option maxRecDepth 100000 in
set_option maxHeartbeats 8000000 in
theorem reefref21_Pg.calls' (p n : Int) (w : World) : Calls Try.prog 47 #[.agg #[.int .i64 p, .int .i64 n]] w fun e w' => e = .returned (.bool (pgB p n)) ∧ Below w.heap.size w w' := by
  have hu := Try.underlying51
  cases h0 : decide (0 ≤ p) with
  | false =>
    go_enter Try.func47, Try.ntmps47
    go_wp2
    go_ret
    exact ⟨by unfold pgB; rw [h0]; rfl, below_alloc (Below.refl _ _) _⟩
  | true =>
    cases h1 : decide (p < 2) with
    | false =>
      go_enter Try.func47, Try.ntmps47
      go_wp2
      go_ret
      exact ⟨by unfold pgB; rw [h0, h1]; rfl, below_alloc (Below.refl _ _) _⟩
    | true =>
      cases h2 : decide (0 ≤ n) with
      | false =>
        go_enter Try.func47, Try.ntmps47
        go_wp2
        go_ret
        exact ⟨by unfold pgB; rw [h0, h1, h2]; rfl, below_alloc (Below.refl _ _) _⟩
      | true =>
        go_enter Try.func47, Try.ntmps47
        go_wp2
        go_ret
        exact ⟨by unfold pgB; rw [h0, h1, h2]; rfl, below_alloc (Below.refl _ _) _⟩
theorem fk1 {w w1 : World} {o : Obj} (h : Below (w.alloc o).heap.size (w.alloc o) w1) : (∀ k, w1.cell? ⟨w.heap.size, k, none⟩ = (w.alloc o).cell? ⟨w.heap.size, k, none⟩) ∧ w.heap.size < w1.heap.size ∧ Below w.heap.size w w1 := by
  have hs := h.size
  rw [World.size_alloc] at hs
  exact ⟨fun k => h.cell (p := ⟨w.heap.size, k, none⟩) (by show w.heap.size < _; rw [World.size_alloc]; exact Nat.lt_succ_self _), by omega, below_step (below_alloc (Below.refl _ _) _) h⟩
theorem fk2 {w w1 w2 : World} (z : w.heap.size < w1.heap.size) (hb : Below w.heap.size w w1) (h : Below w1.heap.size w1 w2) : (∀ k, w2.cell? ⟨w.heap.size, k, none⟩ = w1.cell? ⟨w.heap.size, k, none⟩) ∧ w.heap.size < w2.heap.size ∧ Below w.heap.size w w2 :=
  ⟨fun k => h.cell (p := ⟨w.heap.size, k, none⟩) (by show w.heap.size < _; omega), by have := h.size; omega, below_step hb h⟩
set_option maxRecDepth 100000 in
set_option maxHeartbeats 8000000 in
theorem fit_walk (p n les le lv : Int) (A5 A6 A7 : Option Addr) (n5 c5 n6 c6 n7 c7 : Nat) (wi an lo du ob : Bool) (w : World)
    (hwi : ∀ W0, Below w.heap.size w W0 → Calls Try.prog 37 #[.int .i64 les, .int .i64 0, .int .i64 1073741824] W0 fun e w' => e = .returned (.bool wi) ∧ Below W0.heap.size W0 w')
    (han : ∀ W0, Below w.heap.size w W0 → Calls Try.prog 43 #[.slice A6 n6 c6, .func (.func 44) #[] #[]] W0 fun e w' => e = .returned (.bool an) ∧ Below W0.heap.size W0 w')
    (hlo : ∀ W0, Below w.heap.size w W0 → Calls Try.prog 9 #[.slice A5 n5 c5, .agg #[.int .i64 le, .int .i64 lv]] W0 fun e w' => e = .returned (.bool lo) ∧ Below W0.heap.size W0 w')
    (hdu : ∀ W0, Below w.heap.size w W0 → Calls Try.prog 45 #[.slice A6 n6 c6] W0 fun e w' => e = .returned (.bool du) ∧ Below W0.heap.size W0 w')
    (hob : ∀ W0, Below w.heap.size w W0 → Calls Try.prog 46 #[.slice A7 n7 c7] W0 fun e w' => e = .returned (.bool ob) ∧ Below W0.heap.size W0 w') :
    Calls Try.prog 24 #[.agg #[.int .i64 p, .int .i64 n, .int .i64 les, .int .i64 le, .int .i64 lv, .slice A5 n5 c5, .slice A6 n6 c6, .slice A7 n7 c7]] w fun e w' => e = .returned (.bool (pgB p n && ((wi && !decide (les < le)) && (!an && (lo && (du && ob)))))) ∧ Below w.heap.size w w' := by
  have hu := Try.underlying55
  have hu2 := Try.underlying51
  have hu3 := Try.underlying24
  have HWI := Aside0.mk hwi
  have HAN := Aside0.mk han
  have HLO := Aside0.mk hlo
  have HDU := Aside0.mk hdu
  have HOB := Aside0.mk hob
  clear hwi han hlo hdu hob
  have HV := Aside0.mk (show pgB p n = (!decide (p < 0) && (!decide (2 ≤ p) && (!decide (n < 0) && !decide (8 ≤ n)))) from by unfold pgB; rw [show (!decide (p < 0)) = decide (0 ≤ p) from by rw [← decide_not]; exact decide_eq_decide.2 (by omega), show (!decide (2 ≤ p)) = decide (p < 2) from by rw [← decide_not]; exact decide_eq_decide.2 (by omega), show (!decide (n < 0)) = decide (0 ≤ n) from by rw [← decide_not]; exact decide_eq_decide.2 (by omega), show (!decide (8 ≤ n)) = decide (n < 8) from by rw [← decide_not]; exact decide_eq_decide.2 (by omega)])
  cases h1 : decide (p < 0) with
  | true =>
    go_enter Try.func24, Try.ntmps24
    go_wp2
    all_goals go_ret
    all_goals exact ⟨by rw [HV.out, h1]; rfl, below_alloc (Below.refl _ _) _⟩
  | false =>
    cases h2 : decide (2 ≤ p) with
    | true =>
      go_enter Try.func24, Try.ntmps24
      go_wp2
      all_goals go_ret
      all_goals exact ⟨by rw [HV.out, h1, h2]; rfl, below_alloc (Below.refl _ _) _⟩
    | false =>
      cases h3 : decide (n < 0) with
      | true =>
        go_enter Try.func24, Try.ntmps24
        go_wp2
        all_goals go_ret
        all_goals exact ⟨by rw [HV.out, h1, h2, h3]; rfl, below_alloc (Below.refl _ _) _⟩
      | false =>
        cases h4 : decide (8 ≤ n) with
        | true =>
          go_enter Try.func24, Try.ntmps24
          go_wp2
          all_goals go_ret
          all_goals exact ⟨by rw [HV.out, h1, h2, h3, h4]; rfl, below_alloc (Below.refl _ _) _⟩
        | false =>
          cases wi with
          | false =>
            go_enter Try.func24, Try.ntmps24
            go_wp2_with (first
              | (go_at_call 37; refine (HWI.out _ (below_alloc (Below.refl _ _) _)).mono ?_; rintro e' w1 ⟨rfl, hD⟩; obtain ⟨ca1, z1, hB1⟩ := fk1 hD; have HB1 := Aside0.mk hB1; clear hD hB1))
            all_goals go_ret
            all_goals exact ⟨by rw [HV.out, h1, h2, h3, h4]; rfl, HB1.out⟩
          | true =>
            cases h6 : decide (les < le) with
            | true =>
              go_enter Try.func24, Try.ntmps24
              go_wp2_with (first
                | (go_at_call 37; refine (HWI.out _ (below_alloc (Below.refl _ _) _)).mono ?_; rintro e' w1 ⟨rfl, hD⟩; obtain ⟨ca1, z1, hB1⟩ := fk1 hD; have HB1 := Aside0.mk hB1; clear hD hB1))
              all_goals go_ret
              all_goals exact ⟨by rw [HV.out, h1, h2, h3, h4]; rfl, HB1.out⟩
            | false =>
              cases an with
              | true =>
                go_enter Try.func24, Try.ntmps24
                go_wp2_with (first
                  | (go_at_call 37; refine (HWI.out _ (below_alloc (Below.refl _ _) _)).mono ?_; rintro e' w1 ⟨rfl, hD⟩; obtain ⟨ca1, z1, hB1⟩ := fk1 hD; have HB1 := Aside0.mk hB1; clear hD hB1)
                  | (go_at_call 43; refine (HAN.out _ HB1.out).mono ?_; rintro e' w2 ⟨rfl, hD⟩; obtain ⟨ca2, z2, hB2⟩ := fk2 z1 HB1.out hD; have HB2 := Aside0.mk hB2; clear hD hB2))
                all_goals go_ret
                all_goals exact ⟨by rw [HV.out, h1, h2, h3, h4]; rfl, HB2.out⟩
              | false =>
                cases lo with
                | false =>
                  go_enter Try.func24, Try.ntmps24
                  go_wp2_with (first
                    | (go_at_call 37; refine (HWI.out _ (below_alloc (Below.refl _ _) _)).mono ?_; rintro e' w1 ⟨rfl, hD⟩; obtain ⟨ca1, z1, hB1⟩ := fk1 hD; have HB1 := Aside0.mk hB1; clear hD hB1)
                    | (go_at_call 43; refine (HAN.out _ HB1.out).mono ?_; rintro e' w2 ⟨rfl, hD⟩; obtain ⟨ca2, z2, hB2⟩ := fk2 z1 HB1.out hD; have HB2 := Aside0.mk hB2; clear hD hB2)
                    | (go_at_call 9; refine (HLO.out _ HB2.out).mono ?_; rintro e' w3 ⟨rfl, hD⟩; obtain ⟨ca3, z3, hB3⟩ := fk2 z2 HB2.out hD; have HB3 := Aside0.mk hB3; clear hD hB3))
                  all_goals go_ret
                  all_goals exact ⟨by rw [HV.out, h1, h2, h3, h4]; rfl, HB3.out⟩
                | true =>
                  cases du with
                  | false =>
                    go_enter Try.func24, Try.ntmps24
                    go_wp2_with (first
                      | (go_at_call 37; refine (HWI.out _ (below_alloc (Below.refl _ _) _)).mono ?_; rintro e' w1 ⟨rfl, hD⟩; obtain ⟨ca1, z1, hB1⟩ := fk1 hD; have HB1 := Aside0.mk hB1; clear hD hB1)
                      | (go_at_call 43; refine (HAN.out _ HB1.out).mono ?_; rintro e' w2 ⟨rfl, hD⟩; obtain ⟨ca2, z2, hB2⟩ := fk2 z1 HB1.out hD; have HB2 := Aside0.mk hB2; clear hD hB2)
                      | (go_at_call 9; refine (HLO.out _ HB2.out).mono ?_; rintro e' w3 ⟨rfl, hD⟩; obtain ⟨ca3, z3, hB3⟩ := fk2 z2 HB2.out hD; have HB3 := Aside0.mk hB3; clear hD hB3)
                      | (go_at_call 45; refine (HDU.out _ HB3.out).mono ?_; rintro e' w4 ⟨rfl, hD⟩; obtain ⟨ca4, z4, hB4⟩ := fk2 z3 HB3.out hD; have HB4 := Aside0.mk hB4; clear hD hB4))
                    all_goals go_ret
                    all_goals exact ⟨by rw [HV.out, h1, h2, h3, h4]; rfl, HB4.out⟩
                  | true =>
                    go_enter Try.func24, Try.ntmps24
                    go_wp2_with (first
                      | (go_at_call 37; refine (HWI.out _ (below_alloc (Below.refl _ _) _)).mono ?_; rintro e' w1 ⟨rfl, hD⟩; obtain ⟨ca1, z1, hB1⟩ := fk1 hD; have HB1 := Aside0.mk hB1; clear hD hB1)
                      | (go_at_call 43; refine (HAN.out _ HB1.out).mono ?_; rintro e' w2 ⟨rfl, hD⟩; obtain ⟨ca2, z2, hB2⟩ := fk2 z1 HB1.out hD; have HB2 := Aside0.mk hB2; clear hD hB2)
                      | (go_at_call 9; refine (HLO.out _ HB2.out).mono ?_; rintro e' w3 ⟨rfl, hD⟩; obtain ⟨ca3, z3, hB3⟩ := fk2 z2 HB2.out hD; have HB3 := Aside0.mk hB3; clear hD hB3)
                      | (go_at_call 45; refine (HDU.out _ HB3.out).mono ?_; rintro e' w4 ⟨rfl, hD⟩; obtain ⟨ca4, z4, hB4⟩ := fk2 z3 HB3.out hD; have HB4 := Aside0.mk hB4; clear hD hB4)
                      | (go_at_call 46; refine (HOB.out _ HB4.out).mono ?_; rintro e' w5 ⟨rfl, hD⟩; obtain ⟨ca5, z5, hB5⟩ := fk2 z4 HB4.out hD; have HB5 := Aside0.mk hB5; clear hD hB5))
                    all_goals go_ret
                    all_goals exact ⟨by rw [HV.out, h1, h2, h3, h4]; rfl, HB5.out⟩
set_option maxRecDepth 100000 in
set_option maxHeartbeats 8000000 in
theorem rfit_walk (p n les le lv : Int) (A5 A6 A7 : Option Addr) (n5 c5 c6 n7 c7 : Nat) (d : List S73) (pg lo du ob : Bool) (w : World) (hr0 : Kd.C k73 w A6 d.length d) (hc0 : d.length ≤ c6)
    (hpg : ∀ W0, Below w.heap.size w W0 → Calls Try.prog 47 #[.agg #[.int .i64 p, .int .i64 n]] W0 fun e w' => e = .returned (.bool pg) ∧ Below W0.heap.size W0 w')
    (hlo : ∀ W0, Below w.heap.size w W0 → Calls Try.prog 11 #[.slice A5 n5 c5, .agg #[.int .i64 le, .int .i64 lv]] W0 fun e w' => e = .returned (.bool lo) ∧ Below W0.heap.size W0 w')
    (hdu : ∀ W0, Below w.heap.size w W0 → Calls Try.prog 48 #[.slice A6 d.length c6] W0 fun e w' => e = .returned (.bool du) ∧ Below W0.heap.size W0 w')
    (hob : ∀ W0, Below w.heap.size w W0 → Calls Try.prog 49 #[.slice A7 n7 c7] W0 fun e w' => e = .returned (.bool ob) ∧ Below W0.heap.size W0 w') :
    Calls Try.prog 25 #[.agg #[.int .i64 p, .int .i64 n, .int .i64 les, .int .i64 le, .int .i64 lv, .slice A5 n5 c5, .slice A6 d.length c6, .slice A7 n7 c7]] w fun e w' => e = .returned (.bool (pg && ((!decide (les < 0) && !decide (1073741824 < les)) && (lo && (!decide (les < le) && (du && (ob && !d.any bigC))))))) ∧ Below w.heap.size w w' := by
  have hu := Try.underlying55
  have hu2 := Try.underlying51
  have hu3 := Try.underlying24
  have hu4 := Try.underlying73
  have HR := Aside0.mk hr0
  have HC := Aside0.mk hc0
  have hlen := hr0.2.1
  have HPG := Aside0.mk hpg
  have HLO := Aside0.mk hlo
  have HDU := Aside0.mk hdu
  have HOB := Aside0.mk hob
  clear hpg hlo hdu hob hr0 hc0
  cases pg with
  | false =>
    go_enter Try.func25, Try.ntmps25
    go_wp2_with (first
      | (go_at_call 47; refine (HPG.out _ (below_alloc (Below.refl _ _) _)).mono ?_; rintro e' w1 ⟨rfl, hD⟩; obtain ⟨ca1, z1, hB1⟩ := fk1 hD; have HB1 := Aside0.mk hB1; clear hD hB1))
    all_goals go_ret
    all_goals exact ⟨rfl, HB1.out⟩
  | true =>
    cases h2 : decide (les < 0) with
    | true =>
      go_enter Try.func25, Try.ntmps25
      go_wp2_with (first
        | (go_at_call 47; refine (HPG.out _ (below_alloc (Below.refl _ _) _)).mono ?_; rintro e' w1 ⟨rfl, hD⟩; obtain ⟨ca1, z1, hB1⟩ := fk1 hD; have HB1 := Aside0.mk hB1; clear hD hB1))
      all_goals go_ret
      all_goals exact ⟨rfl, HB1.out⟩
    | false =>
      cases h3 : decide (1073741824 < les) with
      | true =>
        go_enter Try.func25, Try.ntmps25
        go_wp2_with (first
          | (go_at_call 47; refine (HPG.out _ (below_alloc (Below.refl _ _) _)).mono ?_; rintro e' w1 ⟨rfl, hD⟩; obtain ⟨ca1, z1, hB1⟩ := fk1 hD; have HB1 := Aside0.mk hB1; clear hD hB1))
        all_goals go_ret
        all_goals exact ⟨rfl, HB1.out⟩
      | false =>
        cases lo with
        | false =>
          go_enter Try.func25, Try.ntmps25
          go_wp2_with (first
            | (go_at_call 47; refine (HPG.out _ (below_alloc (Below.refl _ _) _)).mono ?_; rintro e' w1 ⟨rfl, hD⟩; obtain ⟨ca1, z1, hB1⟩ := fk1 hD; have HB1 := Aside0.mk hB1; clear hD hB1)
            | (go_at_call 11; refine (HLO.out _ HB1.out).mono ?_; rintro e' w2 ⟨rfl, hD⟩; obtain ⟨ca2, z2, hB2⟩ := fk2 z1 HB1.out hD; have HB2 := Aside0.mk hB2; clear hD hB2))
          all_goals go_ret
          all_goals exact ⟨rfl, HB2.out⟩
        | true =>
          cases h5 : decide (les < le) with
          | true =>
            go_enter Try.func25, Try.ntmps25
            go_wp2_with (first
              | (go_at_call 47; refine (HPG.out _ (below_alloc (Below.refl _ _) _)).mono ?_; rintro e' w1 ⟨rfl, hD⟩; obtain ⟨ca1, z1, hB1⟩ := fk1 hD; have HB1 := Aside0.mk hB1; clear hD hB1)
              | (go_at_call 11; refine (HLO.out _ HB1.out).mono ?_; rintro e' w2 ⟨rfl, hD⟩; obtain ⟨ca2, z2, hB2⟩ := fk2 z1 HB1.out hD; have HB2 := Aside0.mk hB2; clear hD hB2))
            all_goals go_ret
            all_goals exact ⟨rfl, HB2.out⟩
          | false =>
            cases du with
            | false =>
              go_enter Try.func25, Try.ntmps25
              go_wp2_with (first
                | (go_at_call 47; refine (HPG.out _ (below_alloc (Below.refl _ _) _)).mono ?_; rintro e' w1 ⟨rfl, hD⟩; obtain ⟨ca1, z1, hB1⟩ := fk1 hD; have HB1 := Aside0.mk hB1; clear hD hB1)
                | (go_at_call 11; refine (HLO.out _ HB1.out).mono ?_; rintro e' w2 ⟨rfl, hD⟩; obtain ⟨ca2, z2, hB2⟩ := fk2 z1 HB1.out hD; have HB2 := Aside0.mk hB2; clear hD hB2)
                | (go_at_call 48; refine (HDU.out _ HB2.out).mono ?_; rintro e' w3 ⟨rfl, hD⟩; obtain ⟨ca3, z3, hB3⟩ := fk2 z2 HB2.out hD; have HB3 := Aside0.mk hB3; clear hD hB3))
              all_goals go_ret
              all_goals exact ⟨rfl, HB3.out⟩
            | true =>
              cases ob with
              | false =>
                go_enter Try.func25, Try.ntmps25
                go_wp2_with (first
                  | (go_at_call 47; refine (HPG.out _ (below_alloc (Below.refl _ _) _)).mono ?_; rintro e' w1 ⟨rfl, hD⟩; obtain ⟨ca1, z1, hB1⟩ := fk1 hD; have HB1 := Aside0.mk hB1; clear hD hB1)
                  | (go_at_call 11; refine (HLO.out _ HB1.out).mono ?_; rintro e' w2 ⟨rfl, hD⟩; obtain ⟨ca2, z2, hB2⟩ := fk2 z1 HB1.out hD; have HB2 := Aside0.mk hB2; clear hD hB2)
                  | (go_at_call 48; refine (HDU.out _ HB2.out).mono ?_; rintro e' w3 ⟨rfl, hD⟩; obtain ⟨ca3, z3, hB3⟩ := fk2 z2 HB2.out hD; have HB3 := Aside0.mk hB3; clear hD hB3)
                  | (go_at_call 49; refine (HOB.out _ HB3.out).mono ?_; rintro e' w4 ⟨rfl, hD⟩; obtain ⟨ca4, z4, hB4⟩ := fk2 z3 HB3.out hD; have HB4 := Aside0.mk hB4; clear hD hB4))
                all_goals go_ret
                all_goals exact ⟨rfl, HB4.out⟩
              | true =>
                go_enter Try.func25, Try.ntmps25
                go_wp2_with (first
                  | (go_at_call 47; refine (HPG.out _ (below_alloc (Below.refl _ _) _)).mono ?_; rintro e' w1 ⟨rfl, hD⟩; obtain ⟨ca1, z1, hB1⟩ := fk1 hD; have HB1 := Aside0.mk hB1; clear hD hB1)
                  | (go_at_call 11; refine (HLO.out _ HB1.out).mono ?_; rintro e' w2 ⟨rfl, hD⟩; obtain ⟨ca2, z2, hB2⟩ := fk2 z1 HB1.out hD; have HB2 := Aside0.mk hB2; clear hD hB2)
                  | (go_at_call 48; refine (HDU.out _ HB2.out).mono ?_; rintro e' w3 ⟨rfl, hD⟩; obtain ⟨ca3, z3, hB3⟩ := fk2 z2 HB2.out hD; have HB3 := Aside0.mk hB3; clear hD hB3)
                  | (go_at_call 49; refine (HOB.out _ HB3.out).mono ?_; rintro e' w4 ⟨rfl, hD⟩; obtain ⟨ca4, z4, hB4⟩ := fk2 z3 HB3.out hD; have HB4 := Aside0.mk hB4; clear hD hB4))
                have hc6 : w4.cell? ⟨w.heap.size, 6, none⟩ = some (.slice A6 d.length c6) := by rw [ca4, ca3, ca2, ca1]; exact cell_fresh w #[.int .i64 p, .int .i64 n, .int .i64 les, .int .i64 le, .int .i64 lv, .slice A5 n5 c5, .slice A6 d.length c6, .slice A7 n7 c7] 55 6 _ rfl
                have HC4 := Aside0.mk (Kd.C_below HR.out HB4.out)
                clear ca1 ca2 ca3 ca4 z1 z2 z3 z4
                go_loopw [3] (fun v7 w' => ∃ i : Nat, v7 = .int .i64 i ∧ Aside0 (i ≤ d.length ∧ ∀ j, (hj : j < d.length) → j < i → bigC d[j] = false) ∧ w' = w4) (fun v _ => d.length - (intOf v).toNat)
                case atStart => exact ⟨0, rfl, ⟨by omega, by intros; omega⟩, rfl⟩
                case round =>
                  obtain ⟨i, rfl, HI, rfl⟩ := hrel
                  by_cases hlt : i < d.length
                  · obtain ⟨ad, e1, hx0, _, _, _, _, _, _⟩ := at_T73 HC4.out (i : Int) (by omega) (by omega)
                    cases e1
                    simp only [Int.toNat_natCast] at hx0
                    have HRD := Aside0.mk (show rd_T73 d (i : Int) = d[i] from by unfold rd_T73; rw [Int.toNat_natCast, List.getD_eq_getElem?_getD, List.getElem?_eq_getElem hlt]; rfl)
                    have HBC := Aside0.mk (show bigC (rd_T73 d (i : Int)) = decide ((4 : Int) ≤ (rd_T73 d (i : Int)).f0) from rfl)
                    generalize hx : rd_T73 d (i : Int) = x at *
                    clear hx
                    cases h4 : decide ((4 : Int) ≤ x.f0) with
                    | true =>
                      have HA := Aside0.mk (show d.any bigC = true from by rw [List.any_eq_true]; exact ⟨_, List.getElem_mem hlt, by rw [← HRD.out, HBC.out, h4]⟩)
                      go_wp2
                      go_ret
                      exact ⟨by rw [HA.out]; rfl, HB4.out⟩
                    | false =>
                      have HF := Aside0.mk (show bigC d[i] = false from by rw [← HRD.out, HBC.out, h4])
                      go_wp2
                      go_roundw
                      case rel =>
                        refine ⟨i + 1, by go_num, ⟨by omega, fun j hj h => ?_⟩, trivial⟩
                        rcases Nat.lt_succ_iff_lt_or_eq.1 h with h | rfl
                        · exact HI.out.2 j hj h
                        · exact HF.out
                      case measure => simp [intOf]; omega
                  · have HA := Aside0.mk (show d.any bigC = false from by
                      rw [List.any_eq_false]
                      intro x hx
                      obtain ⟨j, hj, rfl⟩ := List.getElem_of_mem hx
                      rw [HI.out.2 j hj (by omega)]; decide)
                    go_wp2
                    go_ret
                    exact ⟨by rw [HA.out]; rfl, HB4.out⟩
end Go.Proofs.Ytbdciklcckjknaa.P
