/- Texts of this claim, merged by pack.py: W3 -/
import Derived.Test.YtbaldkcnipmdjaaRB09
namespace Go.Proofs.Ytbaldkcnipmdjaa.P
open Go.RowKit Go.Proofs.YtbaldkcnipmdjaaW.PrintWords Go.Proofs.YtbaldkcnipmdjaaW.PrintLast Go.Proofs.YtbaldkcnipmdjaaW.PrintMore Go.Proofs.YtbaldkcnipmdjaaW.HB
set_option linter.unusedVariables false
set_option linter.unusedSimpArgs false
attribute [local go_sem high] eqA_IT
set_option maxRecDepth 100000 in
set_option maxHeartbeats 4000000 in
theorem reeflaw12_RulePlaces.calls (A0 : Option Addr) (c0 : Nat) (l0 : List Int) (A1 : Option Addr) (c1 : Nat) (l1 : List Int) (a2 a3 a4 : Int) (w : World) (hr0 : Kd.C (Kd.int .i64) w A0 l0.length l0) (hc0 : l0.length ≤ c0) (hr1 : Kd.C (Kd.int .i64) w A1 l1.length l1) (hc1 : l1.length ≤ c1) :
    Calls Try.prog 3 #[.slice A0 l0.length c0, .slice A1 l1.length c1, .int .u32 a2, .int .i64 a3, .int .i64 a4] w fun e w' => e = .returned (.bool true) ∧ Below w.heap.size w w' := by
  have hu := Try.underlying31
  have F0 := few_at A0 c0 l0 40 w hc0
  have C0 := C_few 40 hr0
  have L0 : (l0.take 40).length ≤ 40 := by rw [List.length_take]; omega
  have K0 : (l0.take 40).length ≤ c0 := by rw [List.length_take]; omega
  generalize l0.take 40 = h at *
  have I1 := Aside0.mk (items_eq h l1 (by omega) 2000000 (by omega))
  have I2 := Aside0.mk (ritems_eq h l1 (by omega) 2000000 (by omega))
  generalize itemsS h l1 = its at *
  have H1 : Aside0 (rule_Hosts.f h = some (hostsL h)) := ⟨by unfold rule_Hosts.f; rw [if_pos (by omega)]⟩
  have H2 := Aside0.mk (rhosts_eq h (by omega) 2000000 (by omega))
  generalize hostsL h = hh at *
  have P1 : Aside0 (rule_Place.f h l1 a2 a3 a4 = some (plS h l1 a2 a3 a4)) := ⟨by unfold rule_Place.f; rw [if_pos (by omega)]⟩
  have P2 := Aside0.mk (rplace_eq h l1 a2 a3 a4 (by omega) 2000000 (by omega))
  generalize plS h l1 a2 a3 a4 = pl at *
  replace F0 := Aside0.mk F0
  have B0 := Below.refl w.heap.size w
  have HE := Aside0.mk (R_empty (Kd.int .i64) 3 w w.heap.size (fun _ => True) (Nat.le_refl _) trivial)
  replace L0 := Aside0.mk L0
  clear hr0
  go_enter Try.func3, Try.ntmps3
  go_wp2_with (first
    | (go_at_call 9; refine F0.out.mono ?_; rintro e w1 ⟨rfl, rfl⟩; clear F0)
    | (at_builtin; refine Kd.R_append_rows (Kd.int .i64) (w0 := _) _ rfl (.tmp 18) (.tmp 19) 22 3 ((.int .i64 0)) 8 rfl Try.underlying22 info3 rfl (by decide) (by omega) _ ([] : List (Int)) h _ _ _ (fun _ => True) (fun _ => False) rfl rfl HE.out (Kd.C_below C0 (below_alloc B0 _)) (fun _ _ h => h) (fun _ h => h.elim) (fun _ _ => trivial) (below_alloc B0 _) (by simp) (by have := L0.out; simp; omega) ?_; intro v125 w3 ho hb hg hat; obtain ⟨Ao, co, rfl⟩ := Kd.R_slice ho; have CO := (Kd.R_reads' ho).2.2; have LO := (Kd.R_reads' ho).2.1; have B1 := hb; replace C0 := Kd.C_below C0 hb; replace hr1 := Kd.C_below hr1 hb; clear ho hb hg hat HE B0)
    | (go_at_call 10; refine (rule_Items.calls 2000000 Ao co h A1 c1 l1 its _ CO LO hr1 hc1 I1.out).mono ?_; rintro e w4 ⟨v, rfl, hR, hW⟩; obtain ⟨Ai, ci, rfl⟩ := Kd.R_slice hR; have CI := (Kd.R_reads' hR).2.2; replace C0 := Kd.C_below C0 hW; replace CO := Kd.C_below CO hW; replace hr1 := Kd.C_below hr1 hW; have B2 := below_step B1 hW; clear hW hR B1 I1)
    | (go_at_call 11; refine (reefref12_Items.calls 2000000 A0 c0 h A1 c1 l1 its _ C0 K0 hr1 hc1 I2.out).mono ?_; rintro e w5 ⟨v, rfl, hR, hW⟩; obtain ⟨Aj, cj, rfl⟩ := Kd.R_slice hR; have CJ := (Kd.R_reads' hR).2.2; replace C0 := Kd.C_below C0 hW; replace CO := Kd.C_below CO hW; replace CI := Kd.C_below CI hW; replace hr1 := Kd.C_below hr1 hW; have B3 := below_step B2 hW; clear hW hR B2 I2)
    | (go_at_call 13; refine (rule_Hosts.calls Ao co h hh _ CO LO H1.out).mono ?_; rintro e w6 ⟨v, rfl, hR, hW⟩; obtain ⟨Ak, ck, rfl⟩ := Kd.R_slice hR; have CK := (Kd.R_reads' hR).2.2; have LK := (Kd.R_reads' hR).2.1; replace C0 := Kd.C_below C0 hW; replace CO := Kd.C_below CO hW; replace CI := Kd.C_below CI hW; replace CJ := Kd.C_below CJ hW; replace hr1 := Kd.C_below hr1 hW; have B4 := below_step B3 hW; clear hW hR B3 H1)
    | (go_at_call 14; refine (reefref12_Hosts.calls 2000000 A0 c0 h hh _ C0 K0 H2.out).mono ?_; rintro e w7 ⟨v, rfl, hR, hW⟩; obtain ⟨Al, cl, rfl⟩ := Kd.R_slice hR; have CL := (Kd.R_reads' hR).2.2; have LL := (Kd.R_reads' hR).2.1; replace C0 := Kd.C_below C0 hW; replace CO := Kd.C_below CO hW; replace CI := Kd.C_below CI hW; replace CJ := Kd.C_below CJ hW; replace CK := Kd.C_below CK hW; replace hr1 := Kd.C_below hr1 hW; have B5 := below_step B4 hW; clear hW hR B4 H2)
    | (go_at_call 12; refine (reeflaw12_ints.calls (hh.length + 1) Ak ck hh Al cl hh true _ CK LK CL LL (ints_same hh CL.2.1)).mono ?_; rintro e w8 ⟨rfl, hD⟩; have hW := hD.below; clear hD; replace C0 := Kd.C_below C0 hW; replace CO := Kd.C_below CO hW; replace CI := Kd.C_below CI hW; replace CJ := Kd.C_below CJ hW; replace hr1 := Kd.C_below hr1 hW; have B6 := below_step B5 hW; clear hW B5 CK CL LK LL))
  replace B6 := Aside0.mk B6
  have HI := Aside0.mk CI
  have HJ := Aside0.mk CJ
  have hb := CI.2.1
  have D0 := Drawn0.refl w8
  clear CI CJ
  go_loopw [15] (fun v15 w' => ∃ i : Int, v15 = .int .i64 i ∧ Aside0 (0 ≤ i ∧ i ≤ its.length) ∧ Drawn0 w8 w') (fun v _ => its.length - (intOf v).toNat)
  case atStart => exact ⟨0, rfl, ⟨by omega⟩, D0⟩
  case round =>
    obtain ⟨i, rfl, hi, ⟨m1, rfl⟩⟩ := hrel
    by_cases hlt : i < (its.length : Int)
    · have p0 : 0 ≤ i := hi.out.1
      obtain ⟨ad1, e1, hx0, hx1⟩ := at_T31 HI.out i p0 hlt
      cases e1
      obtain ⟨ad2, e2, hy0, hy1⟩ := at_T31 HJ.out i p0 hlt
      cases e2
      have c8 : (!((rd_T31 its i).f0 == (rd_T31 its i).f0) || (!((rd_T31 its i).f1 == (rd_T31 its i).f1))) = false := by simp
      have q0 := eq_true hlt
      replace p0 := eq_true p0
      go_wp2
      repeat (go_quiet (fail); try go_wp2)
      have hi2 := hi.out
      have hw : wrap64 (i + 1) = i + 1 := by unfold wrap64; omega
      go_round
      case measure => rw [hw]; simp only [intOf]; omega
      case rel => exact ⟨i + 1, by rw [hw], ⟨by omega⟩, by repeat (first | exact Drawn0.refl _ | apply Drawn0.step)⟩
    · have q0 := eq_false hlt
      replace B6 := below_step B6.out (Drawn0.below (by repeat (first | exact Drawn0.refl _ | apply Drawn0.step) : Drawn0 w8 (w8.drewN m1)))
      replace C0 := Kd.C_drewN C0 m1
      replace CO := Kd.C_drewN CO m1
      replace hr1 := Kd.C_drewN hr1 m1
      go_wp2_with (first
        | (go_at_call 15; refine (rule_Place.calls Ao co h A1 c1 l1 a2 a3 a4 pl _ CO LO hr1 hc1 P1.out).mono ?_; rintro e w9 ⟨v, rfl, hR, hW⟩; obtain ⟨Ap, cp, rfl⟩ := Kd.R_slice hR; have CP := (Kd.R_reads' hR).2.2; have LP := (Kd.R_reads' hR).2.1; replace C0 := Kd.C_below C0 hW; replace CO := Kd.C_below CO hW; replace hr1 := Kd.C_below hr1 hW; have B7 := below_step B6 hW; clear hW hR B6 P1)
        | (go_at_call 16; refine (reefref12_Place.calls 2000000 A0 c0 h A1 c1 l1 a2 a3 a4 pl _ C0 K0 hr1 hc1 P2.out).mono ?_; rintro e w10 ⟨v, rfl, hR, hW⟩; obtain ⟨Aq, cq, rfl⟩ := Kd.R_slice hR; have CQ := (Kd.R_reads' hR).2.2; have LQ := (Kd.R_reads' hR).2.1; replace C0 := Kd.C_below C0 hW; replace CO := Kd.C_below CO hW; replace CP := Kd.C_below CP hW; have B8 := below_step B7 hW; clear hW hR B7 P2)
        | (go_at_call 12; have H := B8; clear B8; refine (reeflaw12_ints.calls (pl.length + 1) Ap cp pl Aq cq pl true _ CP LP CQ LQ (ints_same pl CP.2.1)).mono ?_; rintro e w11 ⟨rfl, hD⟩; have hW := hD.below; clear hD; replace C0 := Kd.C_below C0 hW; replace CO := Kd.C_below CO hW; have B9 := below_step H hW; clear hW H CP CQ)
        | (go_at_call 12; have H := B9; clear B9; refine (reeflaw12_ints.calls (h.length + 1) Ao co h A0 c0 h true _ CO LO C0 K0 (ints_same h C0.2.1)).mono ?_; rintro e w12 ⟨rfl, hD⟩; have hW := hD.below; clear hD; have B10 := below_step H hW; clear hW H CO C0)
        | (go_at_call 17; refine (reeflaw12_awake.calls true _ rfl).mono ?_; rintro e w13 ⟨rfl, hW⟩; have B11 := below_step B10 hW; clear hW B10))
      go_ret
      exact ⟨rfl, B11⟩
end Go.Proofs.Ytbaldkcnipmdjaa.P
