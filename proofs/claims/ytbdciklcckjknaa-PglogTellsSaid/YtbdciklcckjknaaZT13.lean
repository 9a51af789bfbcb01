/- Texts of this claim, merged by pack.py: B6 -/
import Derived.Deep.RegionWith
import Derived.Test.YtbdciklcckjknaaZT01
import Derived.Test.YtbdciklcckjknaaZT12
namespace Go.Proofs.Ytbdciklcckjknaa.P
open Go.RowKit Go.Proofs.YtbdciklcckjknaaW.PrintWords Go.Proofs.YtbdciklcckjknaaW.PrintLast Go.Proofs.YtbdciklcckjknaaW.PrintMore Go.Proofs.YtbdciklcckjknaaW.HB
set_option linter.unusedVariables false
set_option linter.unusedSimpArgs false
def okD (l : List S73) (i : Nat) : Bool := stampB (rd_T73 l i).f0 (rd_T73 l i).f1 (rd_T73 l i).f2 && (i == 0 || !decide ((rd_T73 l i).f0 ≤ (rd_T73 l ((i : Int) - 1)).f0))
def okDs (l : List S73) (k : Nat) : Bool := (List.range k).all (okD l)
theorem okDs_succ (l : List S73) (k : Nat) : okDs l (k + 1) = (okDs l k && okD l k) := by unfold okDs; rw [List.range_succ, List.all_append]; simp
theorem okDs_of (l : List S73) {k n : Nat} (h : k < n) (hk : okD l k = false) : okDs l n = false := by
  unfold okDs
  rw [List.all_eq_false]
  exact ⟨k, List.mem_range.2 h, by simp [hk]⟩
def dupB (l : List S73) : Bool := okDs l l.length && decide ((l.length : Int) ≤ 16)
theorem dcells {W : World} {b : Nat} {x : S73} (h : W.heap[b]? = some (.cells #[.int .i64 x.f0, .int .i64 x.f1, .int .i64 x.f2, .int .i64 x.f3.f0, .int .i64 x.f3.f1, .int .i64 x.f3.f2, .string x.f3.f3] 73 (0, 0))) : W.cell? ⟨b, 0, none⟩ = some (.int .i64 x.f0) ∧ W.cell? ⟨b, 1, none⟩ = some (.int .i64 x.f1) ∧ W.cell? ⟨b, 2, none⟩ = some (.int .i64 x.f2) ∧ W.cell? ⟨b, 3, none⟩ = some (.int .i64 x.f3.f0) ∧ W.cell? ⟨b, 4, none⟩ = some (.int .i64 x.f3.f1) ∧ W.cell? ⟨b, 5, none⟩ = some (.int .i64 x.f3.f2) ∧ W.cell? ⟨b, 6, none⟩ = some (.string x.f3.f3) := by
  simp [World.cell?, h]
theorem ofD {w : World} {n : BelowOf w} (x : S73) : Calls Try.prog 64 #[.agg #[.int .i64 x.f0, .int .i64 x.f1, .int .i64 x.f2, .int .i64 x.f3.f0, .int .i64 x.f3.f1, .int .i64 x.f3.f2, .string x.f3.f3]] n.v fun e w' => e = .returned (.agg #[.int .i64 x.f1, .int .i64 x.f2, .int .i64 x.f0]) ∧ ∃ m : BelowOf w, w' = m.v :=
  quietB (dup_ofDup.calls x.f0 x.f1 x.f2 x.f3.f0 x.f3.f1 x.f3.f2 x.f3.f3 x.f1 x.f2 x.f0 n.v rfl)
set_option maxRecDepth 100000 in
set_option maxHeartbeats 8000000 in
theorem dup_Fit.calls (A0 : Option Addr) (c0 : Nat) (l0 : List S73) (w : World) (hr0 : Kd.C k73 w A0 l0.length l0) (hc0 : l0.length ≤ c0) :
    Calls Try.prog 45 #[.slice A0 l0.length c0] w fun e w' => e = .returned (.bool (dupB l0)) ∧ Below w.heap.size w w' := by
  have HR := Aside0.mk hr0
  have HC := Aside0.mk hc0
  have hlen := hr0.2.1
  clear hr0 hc0
  have hu := Try.underlying73
  have HL := Aside0.mk (show dupB l0 = (okDs l0 l0.length && decide ((l0.length : Int) ≤ 16)) from rfl)
  go_enter Try.func45, Try.ntmps45
  go_wp2
  go_loopw [7] (fun v7 w' => ∃ i : Nat, v7 = .int .i64 i ∧ Aside0 (i ≤ l0.length ∧ okDs l0 i = true) ∧ Aside0 (Below w.heap.size w w')) (fun v _ => l0.length - (intOf v).toNat)
  case atStart => exact ⟨0, rfl, ⟨by omega, rfl⟩, ⟨Below.refl _ _⟩⟩
  case round =>
    obtain ⟨i, rfl, HI, HB1⟩ := hrel
    by_cases hlt : i < l0.length
    · obtain ⟨ad, e1, hx0, hx1, hx2, hx3, hx4, hx5, hx6⟩ := at_T73 (Kd.C_below HR.out HB1.out) (i : Int) (by omega) (by omega)
      cases e1
      simp only [Int.toNat_natCast] at hx0 hx1 hx2 hx3 hx4 hx5 hx6
      have HOK := Aside0.mk (show okD l0 i = (stampB (rd_T73 l0 i).f0 (rd_T73 l0 i).f1 (rd_T73 l0 i).f2 && (i == 0 || !decide ((rd_T73 l0 i).f0 ≤ (rd_T73 l0 ((i : Int) - 1)).f0))) from rfl)
      generalize hx : rd_T73 l0 (i : Int) = x at *
      have HX := Aside0.mk hx
      clear hx
      go_wp2
      obtain ⟨bx, hbx⟩ : ∃ bx, bx = wr.heap.size := ⟨_, rfl⟩
      rw [← hbx]
      obtain ⟨W, hW⟩ : ∃ W, W = wr.alloc (.cells #[.int .i64 x.f0, .int .i64 x.f1, .int .i64 x.f2, .int .i64 x.f3.f0, .int .i64 x.f3.f1, .int .i64 x.f3.f2, .string x.f3.f3] 73) := ⟨_, rfl⟩
      rw [← hW]
      have hBW := below_alloc (Below.refl wr.heap.size wr) (.cells #[.int .i64 x.f0, .int .i64 x.f1, .int .i64 x.f2, .int .i64 x.f3.f0, .int .i64 x.f3.f1, .int .i64 x.f3.f2, .string x.f3.f3] 73)
      rw [← hW] at hBW
      have HBW := Aside0.mk (below_step HB1.out hBW)
      have hcx : W.heap[bx]? = some (.cells #[.int .i64 x.f0, .int .i64 x.f1, .int .i64 x.f2, .int .i64 x.f3.f0, .int .i64 x.f3.f1, .int .i64 x.f3.f2, .string x.f3.f3] 73 (0, 0)) := by rw [hW, hbx]; exact World.alloc_heap_new wr _
      clear hx0 hx1 hx2 hx3 hx4 hx5 hx6 hW hbx hBW
      obtain ⟨y0, y1, y2, y3, y4, y5, y6⟩ := dcells hcx
      clear hcx
      have HCW := Aside0.mk (Kd.C_below HR.out HBW.out)
      replace y0 := BelowOf.cell y0
      replace y1 := BelowOf.cell y1
      replace y2 := BelowOf.cell y2
      replace y3 := BelowOf.cell y3
      replace y4 := BelowOf.cell y4
      replace y5 := BelowOf.cell y5
      replace y6 := BelowOf.cell y6
      cases he : stampB x.f0 x.f1 x.f2 with
      | false =>
        rw [he] at HOK
        have HF := Aside0.mk (HOK.out.trans (Bool.false_and _))
        have HSF : Aside0 (∀ W0, Calls Try.prog 65 #[.agg #[.int .i64 x.f1, .int .i64 x.f2, .int .i64 x.f0]] W0 fun e w' => e = .returned (.bool false) ∧ Below W0.heap.size W0 w') := ⟨fun W0 => by rw [← he]; exact dup_stamp_fit.calls x.f1 x.f2 x.f0 W0⟩
        clear he HOK
        refine wp_region_below (by kernel_rfl) (by kernel_rfl) ?_
        repeat (go_big_quiet_step (first | (go_at_call 64; exact ofD x) | (go_at_call 65; exact quietB (HSF.out _)) | (go_at_call 67; exact quietB (HSF.out _))))
        refine wpQuiet_nil ?_
        rintro _ ⟨nq, rfl⟩
        have HB3 := Aside0.mk (below_step HBW.out nq.h)
        clear y0 y1 y2 y3 y4 y5 y6
        go_wp2
        go_ret
        refine ⟨?_, HB3.out⟩
        rw [HL.out, okDs_of l0 hlt HF.out]; rfl
      | true =>
        rw [he] at HOK
        have HSF : Aside0 (∀ W0, Calls Try.prog 65 #[.agg #[.int .i64 x.f1, .int .i64 x.f2, .int .i64 x.f0]] W0 fun e w' => e = .returned (.bool true) ∧ Below W0.heap.size W0 w') := ⟨fun W0 => by rw [← he]; exact dup_stamp_fit.calls x.f1 x.f2 x.f0 W0⟩
        clear he
        rcases Nat.eq_zero_or_pos i with hi | hi
        · subst hi
          have hd : decide (((0 : Nat) : Int) > 0) = false := rfl
          have HT := Aside0.mk (show okD l0 0 = true from HOK.out.trans rfl)
          clear HOK
          refine wp_region_below (by kernel_rfl) (by kernel_rfl) ?_
          repeat (go_big_quiet_step (first | (go_at_call 64; exact ofD x) | (go_at_call 65; exact quietB (HSF.out _)) | (go_at_call 67; exact quietB (HSF.out _))))
          refine wpQuiet_nil ?_
          rintro _ ⟨nq, rfl⟩
          have HB3 := Aside0.mk (below_step HBW.out nq.h)
          clear y0 y1 y2 y3 y4 y5 y6
          go_wp2
          go_roundw
          case rel => exact ⟨1, by go_num, ⟨by omega, by rw [okDs_succ, HI.out.2, HT.out]; rfl⟩, HB3⟩
          case measure => simp [intOf]; omega
        · have hd : decide ((i : Int) > 0) = true := decide_eq_true (by omega)
          obtain ⟨ad2, e2, hz0, _, _, _, _, _, _⟩ := at_T73 HCW.out ((i : Int) - 1) (by omega) (by omega)
          cases e2
          rw [show ((i : Int) - 1).toNat = i - 1 from by omega] at hz0
          replace hz0 := BelowOf.cell hz0
          have hi0 : (i == 0) = false := by rw [beq_eq_false_iff_ne]; omega
          rw [hi0] at HOK
          generalize hp : rd_T73 l0 ((i : Int) - 1) = pv at *
          clear hp hi0
          have hpn : 0 ≤ (i : Int) - 1 := by omega
          have hpl : (i : Int) - 1 < (l0.length : Int) := by omega
          have hwi : IntKind.i64.wrap ((i : Int) - 1) = (i : Int) - 1 := by simp [IntKind.wrap, IntKind.signed, IntKind.bits]; omega
          cases hb1 : decide (x.f0 ≤ pv.f0) with
          | true =>
            have HF := Aside0.mk (show okD l0 i = false from by rw [HOK.out, hb1]; rfl)
            clear HOK
            refine wp_region_below (by kernel_rfl) (by kernel_rfl) ?_
            repeat (go_big_quiet_step (first | (go_at_call 64; exact ofD x) | (go_at_call 65; exact quietB (HSF.out _)) | (go_at_call 67; exact quietB (HSF.out _))))
            refine wpQuiet_nil ?_
            rintro _ ⟨nq, rfl⟩
            have HB3 := Aside0.mk (below_step HBW.out nq.h)
            clear y0 y1 y2 y3 y4 y5 y6 hz0
            go_wp2
            go_ret
            refine ⟨?_, HB3.out⟩
            rw [HL.out, okDs_of l0 hlt HF.out]; rfl
          | false =>
            have HT := Aside0.mk (show okD l0 i = true from by rw [HOK.out, hb1]; rfl)
            clear HOK
            refine wp_region_below (by kernel_rfl) (by kernel_rfl) ?_
            repeat (go_big_quiet_step (first | (go_at_call 64; exact ofD x) | (go_at_call 65; exact quietB (HSF.out _)) | (go_at_call 67; exact quietB (HSF.out _))))
            refine wpQuiet_nil ?_
            rintro _ ⟨nq, rfl⟩
            have HB3 := Aside0.mk (below_step HBW.out nq.h)
            clear y0 y1 y2 y3 y4 y5 y6 hz0
            go_wp2
            go_roundw
            case rel => exact ⟨i + 1, by go_num, ⟨by omega, by rw [okDs_succ, HI.out.2, HT.out]; rfl⟩, HB3⟩
            case measure => simp [intOf]; omega
    · have hie : i = l0.length := by have := HI.out.1; omega
      have HTO := Aside0.mk (show okDs l0 l0.length = true from by rw [← hie]; exact HI.out.2)
      clear hie
      go_wp2
      go_ret
      refine ⟨?_, HB1.out⟩
      rw [HL.out, HTO.out]; rfl
set_option maxRecDepth 100000 in
set_option maxHeartbeats 8000000 in
theorem reefref20_Fit.calls (A0 : Option Addr) (c0 : Nat) (l0 : List S73) (w : World) (hr0 : Kd.C k73 w A0 l0.length l0) (hc0 : l0.length ≤ c0) :
    Calls Try.prog 48 #[.slice A0 l0.length c0] w fun e w' => e = .returned (.bool (dupB l0)) ∧ Below w.heap.size w w' := by
  have HR := Aside0.mk hr0
  have HC := Aside0.mk hc0
  have hlen := hr0.2.1
  clear hr0 hc0
  have hu := Try.underlying73
  cases h16 : decide ((16 : Int) < (l0.length : Int)) with
  | true =>
    have HL := Aside0.mk (show dupB l0 = false from by unfold dupB; rw [decide_eq_false (show ¬ (l0.length : Int) ≤ 16 from by have := of_decide_eq_true h16; omega), Bool.and_false])
    go_enter Try.func48, Try.ntmps48
    go_wp2
    go_ret
    exact ⟨by rw [HL.out]; rfl, Below.refl _ _⟩
  | false =>
    have HL := Aside0.mk (show dupB l0 = okDs l0 l0.length from by unfold dupB; rw [decide_eq_true (show (l0.length : Int) ≤ 16 from by have := of_decide_eq_false h16; omega), Bool.and_true])
    go_enter Try.func48, Try.ntmps48
    go_wp2
    go_loopw [3] (fun v7 w' => ∃ i : Nat, v7 = .int .i64 i ∧ Aside0 (i ≤ l0.length ∧ okDs l0 i = true) ∧ Aside0 (Below w.heap.size w w')) (fun v _ => l0.length - (intOf v).toNat)
    case atStart => exact ⟨0, rfl, ⟨by omega, rfl⟩, ⟨Below.refl _ _⟩⟩
    case round =>
      obtain ⟨i, rfl, HI, HB1⟩ := hrel
      by_cases hlt : i < l0.length
      · obtain ⟨ad, e1, hx0, hx1, hx2, hx3, hx4, hx5, hx6⟩ := at_T73 (Kd.C_below HR.out HB1.out) (i : Int) (by omega) (by omega)
        cases e1
        simp only [Int.toNat_natCast] at hx0 hx1 hx2 hx3 hx4 hx5 hx6
        have HOK := Aside0.mk (show okD l0 i = (stampB (rd_T73 l0 i).f0 (rd_T73 l0 i).f1 (rd_T73 l0 i).f2 && (i == 0 || !decide ((rd_T73 l0 i).f0 ≤ (rd_T73 l0 ((i : Int) - 1)).f0))) from rfl)
        generalize hx : rd_T73 l0 (i : Int) = x at *
        have HX := Aside0.mk hx
        clear hx
        go_wp2
        obtain ⟨bx, hbx⟩ : ∃ bx, bx = wr.heap.size := ⟨_, rfl⟩
        rw [← hbx]
        obtain ⟨W, hW⟩ : ∃ W, W = wr.alloc (.cells #[.int .i64 x.f0, .int .i64 x.f1, .int .i64 x.f2, .int .i64 x.f3.f0, .int .i64 x.f3.f1, .int .i64 x.f3.f2, .string x.f3.f3] 73) := ⟨_, rfl⟩
        rw [← hW]
        have hBW := below_alloc (Below.refl wr.heap.size wr) (.cells #[.int .i64 x.f0, .int .i64 x.f1, .int .i64 x.f2, .int .i64 x.f3.f0, .int .i64 x.f3.f1, .int .i64 x.f3.f2, .string x.f3.f3] 73)
        rw [← hW] at hBW
        have HBW := Aside0.mk (below_step HB1.out hBW)
        have hcx : W.heap[bx]? = some (.cells #[.int .i64 x.f0, .int .i64 x.f1, .int .i64 x.f2, .int .i64 x.f3.f0, .int .i64 x.f3.f1, .int .i64 x.f3.f2, .string x.f3.f3] 73 (0, 0)) := by rw [hW, hbx]; exact World.alloc_heap_new wr _
        clear hx0 hx1 hx2 hx3 hx4 hx5 hx6 hW hbx hBW
        obtain ⟨y0, y1, y2, y3, y4, y5, y6⟩ := dcells hcx
        clear hcx
        have HCW := Aside0.mk (Kd.C_below HR.out HBW.out)
        replace y0 := BelowOf.cell y0
        replace y1 := BelowOf.cell y1
        replace y2 := BelowOf.cell y2
        replace y3 := BelowOf.cell y3
        replace y4 := BelowOf.cell y4
        replace y5 := BelowOf.cell y5
        replace y6 := BelowOf.cell y6
        cases he : stampB x.f0 x.f1 x.f2 with
        | false =>
          rw [he] at HOK
          have HF := Aside0.mk (HOK.out.trans (Bool.false_and _))
          have HSF : Aside0 (∀ W0, Calls Try.prog 67 #[.int .i64 x.f0, .int .i64 x.f1, .int .i64 x.f2] W0 fun e w' => e = .returned (.bool false) ∧ Below W0.heap.size W0 w') := ⟨fun W0 => by rw [← he]; exact reefref20_stamp.calls' x.f0 x.f1 x.f2 W0⟩
          clear he HOK
          refine wp_region_below (by kernel_rfl) (by kernel_rfl) ?_
          repeat (go_big_quiet_step (first | (go_at_call 64; exact ofD x) | (go_at_call 65; exact quietB (HSF.out _)) | (go_at_call 67; exact quietB (HSF.out _))))
          refine wpQuiet_nil ?_
          rintro _ ⟨nq, rfl⟩
          have HB3 := Aside0.mk (below_step HBW.out nq.h)
          clear y0 y1 y2 y3 y4 y5 y6
          go_wp2
          go_ret
          refine ⟨?_, HB3.out⟩
          rw [HL.out, okDs_of l0 hlt HF.out]; rfl
        | true =>
          rw [he] at HOK
          have HSF : Aside0 (∀ W0, Calls Try.prog 67 #[.int .i64 x.f0, .int .i64 x.f1, .int .i64 x.f2] W0 fun e w' => e = .returned (.bool true) ∧ Below W0.heap.size W0 w') := ⟨fun W0 => by rw [← he]; exact reefref20_stamp.calls' x.f0 x.f1 x.f2 W0⟩
          clear he
          rcases Nat.eq_zero_or_pos i with hi | hi
          · subst hi
            have hd : decide (((0 : Nat) : Int) > 0) = false := rfl
            have HT := Aside0.mk (show okD l0 0 = true from HOK.out.trans rfl)
            clear HOK
            refine wp_region_below (by kernel_rfl) (by kernel_rfl) ?_
            repeat (go_big_quiet_step (first | (go_at_call 64; exact ofD x) | (go_at_call 65; exact quietB (HSF.out _)) | (go_at_call 67; exact quietB (HSF.out _))))
            refine wpQuiet_nil ?_
            rintro _ ⟨nq, rfl⟩
            have HB3 := Aside0.mk (below_step HBW.out nq.h)
            clear y0 y1 y2 y3 y4 y5 y6
            go_wp2
            go_roundw
            case rel => exact ⟨1, by go_num, ⟨by omega, by rw [okDs_succ, HI.out.2, HT.out]; rfl⟩, HB3⟩
            case measure => simp [intOf]; omega
          · have hd : decide ((i : Int) > 0) = true := decide_eq_true (by omega)
            obtain ⟨ad2, e2, hz0, _, _, _, _, _, _⟩ := at_T73 HCW.out ((i : Int) - 1) (by omega) (by omega)
            cases e2
            rw [show ((i : Int) - 1).toNat = i - 1 from by omega] at hz0
            replace hz0 := BelowOf.cell hz0
            have hi0 : (i == 0) = false := by rw [beq_eq_false_iff_ne]; omega
            rw [hi0] at HOK
            generalize hp : rd_T73 l0 ((i : Int) - 1) = pv at *
            clear hp hi0
            have hpn : 0 ≤ (i : Int) - 1 := by omega
            have hpl : (i : Int) - 1 < (l0.length : Int) := by omega
            have hwi : IntKind.i64.wrap ((i : Int) - 1) = (i : Int) - 1 := by simp [IntKind.wrap, IntKind.signed, IntKind.bits]; omega
            cases hb1 : decide (x.f0 ≤ pv.f0) with
            | true =>
              have HF := Aside0.mk (show okD l0 i = false from by rw [HOK.out, hb1]; rfl)
              clear HOK
              refine wp_region_below (by kernel_rfl) (by kernel_rfl) ?_
              repeat (go_big_quiet_step (first | (go_at_call 64; exact ofD x) | (go_at_call 65; exact quietB (HSF.out _)) | (go_at_call 67; exact quietB (HSF.out _))))
              refine wpQuiet_nil ?_
              rintro _ ⟨nq, rfl⟩
              have HB3 := Aside0.mk (below_step HBW.out nq.h)
              clear y0 y1 y2 y3 y4 y5 y6 hz0
              go_wp2
              go_ret
              refine ⟨?_, HB3.out⟩
              rw [HL.out, okDs_of l0 hlt HF.out]; rfl
            | false =>
              have HT := Aside0.mk (show okD l0 i = true from by rw [HOK.out, hb1]; rfl)
              clear HOK
              refine wp_region_below (by kernel_rfl) (by kernel_rfl) ?_
              repeat (go_big_quiet_step (first | (go_at_call 64; exact ofD x) | (go_at_call 65; exact quietB (HSF.out _)) | (go_at_call 67; exact quietB (HSF.out _))))
              refine wpQuiet_nil ?_
              rintro _ ⟨nq, rfl⟩
              have HB3 := Aside0.mk (below_step HBW.out nq.h)
              clear y0 y1 y2 y3 y4 y5 y6 hz0
              go_wp2
              go_roundw
              case rel => exact ⟨i + 1, by go_num, ⟨by omega, by rw [okDs_succ, HI.out.2, HT.out]; rfl⟩, HB3⟩
              case measure => simp [intOf]; omega
      · have hie : i = l0.length := by have := HI.out.1; omega
        have HTO := Aside0.mk (show okDs l0 l0.length = true from by rw [← hie]; exact HI.out.2)
        clear hie
        go_wp2
        go_ret
        refine ⟨?_, HB1.out⟩
        rw [HL.out, HTO.out]; rfl
end Go.Proofs.Ytbdciklcckjknaa.P
