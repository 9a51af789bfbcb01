/- Texts of this claim, merged by pack.py: B3 -/
import Derived.Test.YtbdciklcckjknaaZT01
import Derived.Test.YtbdciklcckjknaaZT03
namespace Go.Proofs.Ytbdciklcckjknaa.P
open Go.RowKit Go.Proofs.YtbdciklcckjknaaW.PrintWords Go.Proofs.YtbdciklcckjknaaW.PrintLast Go.Proofs.YtbdciklcckjknaaW.PrintMore Go.Proofs.YtbdciklcckjknaaW.HB
set_option linter.unusedVariables false
set_option linter.unusedSimpArgs false
attribute [local go_sem high] eqA24
theorem i64w (x : Int) : IntKind.i64.wrap x = wrap64 x := by unfold wrap64; simp [IntKind.wrap, IntKind.signed, IntKind.bits]; omega
def entF (x : S34) : Option Bool := pglog_Entry.f 40 x.f0.f0 x.f0.f1 x.f1.f0 x.f1.f1 x.f1.f2 x.f1.f3.f0 x.f1.f3.f1 x.f1.f3.f2 x.f1.f3.f3 x.f1.f3.f4 x.f2.f0 x.f2.f1 x.f2.f2 x.f2.f3
def entB (x : S34) : Bool := (entF x).getD false
def gapOk (x p : S34) : Bool := x.f0.f1 == wrap64 (p.f0.f1 + 1) && !decide (x.f0.f0 < p.f0.f0)
def okAt (l : List S34) (i : Nat) : Bool := entB (rd_T34 l i) && (i == 0 || gapOk (rd_T34 l i) (rd_T34 l ((i : Int) - 1)))
def okTo (l : List S34) (k : Nat) : Bool := (List.range k).all (okAt l)
theorem okTo_succ (l : List S34) (k : Nat) : okTo l (k + 1) = (okTo l k && okAt l k) := by unfold okTo; rw [List.range_succ, List.all_append]; simp
theorem okTo_of (l : List S34) {k n : Nat} (h : k < n) (hk : okAt l k = false) : okTo l n = false := by
  unfold okTo
  rw [List.all_eq_false]
  exact ⟨k, List.mem_range.2 h, by simp [hk]⟩
def logB (l : List S34) (e v : Int) : Bool := if l.length = 0 then (e == 0 && v == 0) else
  okTo l l.length && (decide (l.length ≤ 8) && (((rd_T34 l ((l.length : Int) - 1)).f0.f0 == e && (rd_T34 l ((l.length : Int) - 1)).f0.f1 == v) && ((rd_T34 l 0).f0.f1 == 1 || l.length == 8)))
def pglog_Log.f (l0 : List S34) (e v : Int) : Option Bool := if l0.all (fun x => (entF x).isSome) = true then some (logB l0 e v) else none
theorem entF_of {l : List S34} (h : l.all (fun x => (entF x).isSome) = true) {i : Nat} (hi : i < l.length) : pglog_Entry.f 40 (rd_T34 l i).f0.f0 (rd_T34 l i).f0.f1 (rd_T34 l i).f1.f0 (rd_T34 l i).f1.f1 (rd_T34 l i).f1.f2 (rd_T34 l i).f1.f3.f0 (rd_T34 l i).f1.f3.f1 (rd_T34 l i).f1.f3.f2 (rd_T34 l i).f1.f3.f3 (rd_T34 l i).f1.f3.f4 (rd_T34 l i).f2.f0 (rd_T34 l i).f2.f1 (rd_T34 l i).f2.f2 (rd_T34 l i).f2.f3 = some (entB (rd_T34 l i)) := by
  have h1 := List.all_eq_true.1 h (rd_T34 l i) (by rw [rd_at_N l i hi]; exact List.getElem_mem _)
  unfold entB
  show entF _ = _
  cases hq : entF (rd_T34 l i) with
  | none => rw [hq] at h1; cases h1
  | some b => rfl
theorem xcells {W : World} {b : Nat} {x : S34} (h : W.heap[b]? = some (.cells #[.int .i64 x.f0.f0, .int .i64 x.f0.f1, .int .i64 x.f1.f0, .int .i64 x.f1.f1, .int .i64 x.f1.f2, .int .i64 x.f1.f3.f0, .string x.f1.f3.f1, .int .i64 x.f1.f3.f2, .int .i64 x.f1.f3.f3, .string x.f1.f3.f4, .int .i64 x.f2.f0, .int .i64 x.f2.f1, .int .i64 x.f2.f2, .string x.f2.f3] 34 (0, 0))) : W.cell? ⟨b, 0, none⟩ = some (.int .i64 x.f0.f0) ∧ W.cell? ⟨b, 1, none⟩ = some (.int .i64 x.f0.f1) ∧ W.cell? ⟨b, 2, none⟩ = some (.int .i64 x.f1.f0) ∧ W.cell? ⟨b, 3, none⟩ = some (.int .i64 x.f1.f1) ∧ W.cell? ⟨b, 4, none⟩ = some (.int .i64 x.f1.f2) ∧ W.cell? ⟨b, 5, none⟩ = some (.int .i64 x.f1.f3.f0) ∧ W.cell? ⟨b, 6, none⟩ = some (.string x.f1.f3.f1) ∧ W.cell? ⟨b, 7, none⟩ = some (.int .i64 x.f1.f3.f2) ∧ W.cell? ⟨b, 8, none⟩ = some (.int .i64 x.f1.f3.f3) ∧ W.cell? ⟨b, 9, none⟩ = some (.string x.f1.f3.f4) ∧ W.cell? ⟨b, 10, none⟩ = some (.int .i64 x.f2.f0) ∧ W.cell? ⟨b, 11, none⟩ = some (.int .i64 x.f2.f1) ∧ W.cell? ⟨b, 12, none⟩ = some (.int .i64 x.f2.f2) ∧ W.cell? ⟨b, 13, none⟩ = some (.string x.f2.f3) := by
  simp [World.cell?, h]
set_option maxRecDepth 100000 in
set_option maxHeartbeats 8000000 in
theorem pglog_Log.calls (A0 : Option Addr) (c0 : Nat) (l0 : List S34) (a1_0 a1_1 : Int) (r : Bool) (w : World) (hr0 : Kd.C k34 w A0 l0.length l0) (hc0 : l0.length ≤ c0) (h : pglog_Log.f l0 a1_0 a1_1 = some r) :
    Calls Try.prog 9 #[.slice A0 l0.length c0, .agg #[.int .i64 a1_0, .int .i64 a1_1]] w fun e w' => e = .returned (.bool r) ∧ Below w.heap.size w w' := by
  unfold pglog_Log.f at h
  split at h
  case isFalse => cases h
  rename_i hall
  obtain rfl := Option.some.inj h
  clear h
  have HALL := Aside0.mk hall
  have HR := Aside0.mk hr0
  have HC := Aside0.mk hc0
  have hlen := hr0.2.1
  clear hall hr0 hc0
  have hu := Try.underlying34
  have hu2 := Try.underlying24
  rcases Nat.eq_zero_or_pos l0.length with hz | hpos
  · have HZ := Aside0.mk hz
    have hz0 : ((l0.length : Int) == 0) = true := by rw [beq_iff_eq]; omega
    have HL := Aside0.mk (show logB l0 a1_0 a1_1 = (a1_0 == 0 && a1_1 == 0) from by unfold logB; rw [if_pos hz])
    clear hz
    go_enter Try.func9, Try.ntmps9
    go_wp2
    go_ret
    exact ⟨by rw [HL.out]; rfl, below_alloc (Below.refl _ _) _⟩
  · have hz0 : ((l0.length : Int) == 0) = false := by rw [beq_eq_false_iff_ne]; omega
    have HL := Aside0.mk (show logB l0 a1_0 a1_1 = _ from by unfold logB; rw [if_neg (by omega)])
    have HP := Aside0.mk hpos
    clear hpos
    go_enter Try.func9, Try.ntmps9
    go_wp2
    have HB := Aside0.mk (below_alloc (Below.refl w.heap.size w) (.cells #[.int .i64 a1_0, .int .i64 a1_1] 24))
    go_loopw [17] (fun v17 w' => ∃ i : Nat, v17 = .int .i64 i ∧ Aside0 (i ≤ l0.length ∧ okTo l0 i = true) ∧ Aside0 (Below (w.alloc (.cells #[.int .i64 a1_0, .int .i64 a1_1] 24)).heap.size (w.alloc (.cells #[.int .i64 a1_0, .int .i64 a1_1] 24)) w')) (fun v _ => l0.length - (intOf v).toNat)
    case atStart => exact ⟨0, rfl, ⟨by omega, rfl⟩, ⟨Below.refl _ _⟩⟩
    case round =>
      obtain ⟨i, rfl, HI, HB1⟩ := hrel
      by_cases hlt : i < l0.length
      · obtain ⟨ad, e1, hx0, hx1, hx2, hx3, hx4, hx5, hx6, hx7, hx8, hx9, hx10, hx11, hx12, hx13⟩ := at_T34 (Kd.C_below (Kd.C_below HR.out HB.out) HB1.out) (i : Int) (by omega) (by omega)
        cases e1
        simp only [Int.toNat_natCast] at hx0 hx1 hx2 hx3 hx4 hx5 hx6 hx7 hx8 hx9 hx10 hx11 hx12 hx13
        have HENT := Aside0.mk (entF_of HALL.out hlt)
        have HOK := Aside0.mk (show okAt l0 i = (entB (rd_T34 l0 i) && (i == 0 || gapOk (rd_T34 l0 i) (rd_T34 l0 ((i : Int) - 1)))) from rfl)
        generalize hx : rd_T34 l0 (i : Int) = x at *
        have HX := Aside0.mk hx
        clear hx
        go_wp2
        obtain ⟨bx, hbx⟩ : ∃ bx, bx = wr.heap.size := ⟨_, rfl⟩
        rw [← hbx]
        obtain ⟨W, hW⟩ : ∃ W, W = wr.alloc (.cells #[.int .i64 x.f0.f0, .int .i64 x.f0.f1, .int .i64 x.f1.f0, .int .i64 x.f1.f1, .int .i64 x.f1.f2, .int .i64 x.f1.f3.f0, .string x.f1.f3.f1, .int .i64 x.f1.f3.f2, .int .i64 x.f1.f3.f3, .string x.f1.f3.f4, .int .i64 x.f2.f0, .int .i64 x.f2.f1, .int .i64 x.f2.f2, .string x.f2.f3] 34) := ⟨_, rfl⟩
        rw [← hW]
        have hBW := below_alloc (Below.refl wr.heap.size wr) (.cells #[.int .i64 x.f0.f0, .int .i64 x.f0.f1, .int .i64 x.f1.f0, .int .i64 x.f1.f1, .int .i64 x.f1.f2, .int .i64 x.f1.f3.f0, .string x.f1.f3.f1, .int .i64 x.f1.f3.f2, .int .i64 x.f1.f3.f3, .string x.f1.f3.f4, .int .i64 x.f2.f0, .int .i64 x.f2.f1, .int .i64 x.f2.f2, .string x.f2.f3] 34)
        rw [← hW] at hBW
        have HBW := Aside0.mk (below_step HB1.out hBW)
        have hcx : W.heap[bx]? = some (.cells #[.int .i64 x.f0.f0, .int .i64 x.f0.f1, .int .i64 x.f1.f0, .int .i64 x.f1.f1, .int .i64 x.f1.f2, .int .i64 x.f1.f3.f0, .string x.f1.f3.f1, .int .i64 x.f1.f3.f2, .int .i64 x.f1.f3.f3, .string x.f1.f3.f4, .int .i64 x.f2.f0, .int .i64 x.f2.f1, .int .i64 x.f2.f2, .string x.f2.f3] 34 (0, 0)) := by rw [hW, hbx]; exact World.alloc_heap_new wr _
        clear hx0 hx1 hx2 hx3 hx4 hx5 hx6 hx7 hx8 hx9 hx10 hx11 hx12 hx13 hW hbx hBW
        have HX0 := Aside0.mk hcx
        obtain ⟨y0, y1, y2, y3, y4, y5, y6, y7, y8, y9, y10, y11, y12, y13⟩ := xcells hcx
        clear hcx
        have HCW := Aside0.mk (Kd.C_below (Kd.C_below HR.out HB.out) HBW.out)
        replace y0 := BelowOf.cell y0
        replace y1 := BelowOf.cell y1
        replace y2 := BelowOf.cell y2
        replace y3 := BelowOf.cell y3
        replace y4 := BelowOf.cell y4
        replace y5 := BelowOf.cell y5
        replace y6 := BelowOf.cell y6
        replace y7 := BelowOf.cell y7
        replace y8 := BelowOf.cell y8
        replace y9 := BelowOf.cell y9
        replace y10 := BelowOf.cell y10
        replace y11 := BelowOf.cell y11
        replace y12 := BelowOf.cell y12
        replace y13 := BelowOf.cell y13
        cases he : entB x with
        | false =>
          rw [he] at HENT HOK
          have HF := Aside0.mk (HOK.out.trans (Bool.false_and _))
          clear he HOK
          refine wp_region_below (by kernel_rfl) (by kernel_rfl) ?_
          repeat (go_big_quiet_step ((go_at_call 22; exact quietB (pglog_Entry.calls 40 x.f0.f0 x.f0.f1 x.f1.f0 x.f1.f1 x.f1.f2 x.f1.f3.f0 x.f1.f3.f1 x.f1.f3.f2 x.f1.f3.f3 x.f1.f3.f4 x.f2.f0 x.f2.f1 x.f2.f2 x.f2.f3 false _ HENT.out))))
          refine wpQuiet_nil ?_
          rintro _ ⟨nq, rfl⟩
          have HB3 := Aside0.mk (below_step HBW.out nq.h)
          clear y0 y1 y2 y3 y4 y5 y6 y7 y8 y9 y10 y11 y12 y13
          go_wp2
          go_ret
          refine ⟨?_, below_step HB.out HB3.out⟩
          rw [HL.out, okTo_of l0 hlt HF.out]; rfl
        | true =>
          rw [he] at HENT HOK
          clear he
          rcases Nat.eq_zero_or_pos i with hi | hi
          · subst hi
            have hd : decide (((0 : Nat) : Int) > 0) = false := rfl
            have HT := Aside0.mk (show okAt l0 0 = true from HOK.out.trans rfl)
            clear HOK
            refine wp_region_below (by kernel_rfl) (by kernel_rfl) ?_
            repeat (go_big_quiet_step ((go_at_call 22; exact quietB (pglog_Entry.calls 40 x.f0.f0 x.f0.f1 x.f1.f0 x.f1.f1 x.f1.f2 x.f1.f3.f0 x.f1.f3.f1 x.f1.f3.f2 x.f1.f3.f3 x.f1.f3.f4 x.f2.f0 x.f2.f1 x.f2.f2 x.f2.f3 true _ HENT.out))))
            refine wpQuiet_nil ?_
            rintro _ ⟨nq, rfl⟩
            have HB3 := Aside0.mk (below_step HBW.out nq.h)
            clear y0 y1 y2 y3 y4 y5 y6 y7 y8 y9 y10 y11 y12 y13
            go_wp2
            go_roundw
            case rel => exact ⟨1, by go_num, ⟨by omega, by rw [okTo_succ, HI.out.2, HT.out]; rfl⟩, HB3⟩
            case measure => simp [intOf]; omega
          · have hd : decide ((i : Int) > 0) = true := decide_eq_true (by omega)
            obtain ⟨ad2, e2, hz0, hz1, _, _, _, _, _, _, _, _, _, _, _, _⟩ := at_T34 HCW.out ((i : Int) - 1) (by omega) (by omega)
            cases e2
            rw [show ((i : Int) - 1).toNat = i - 1 from by omega] at hz0 hz1
            replace hz0 := BelowOf.cell hz0
            replace hz1 := BelowOf.cell hz1
            have hi0 : (i == 0) = false := by rw [beq_eq_false_iff_ne]; omega
            rw [hi0] at HOK
            generalize hp : rd_T34 l0 ((i : Int) - 1) = pv at *
            clear hp hi0
            have hpn : 0 ≤ (i : Int) - 1 := by omega
            have hpl : (i : Int) - 1 < (l0.length : Int) := by omega
            have hwi : IntKind.i64.wrap ((i : Int) - 1) = (i : Int) - 1 := by simp [IntKind.wrap, IntKind.signed, IntKind.bits]; omega
            have HV := Aside0.mk (i64w (pv.f0.f1 + 1))
            have HG := Aside0.mk (show gapOk x pv = (x.f0.f1 == wrap64 (pv.f0.f1 + 1) && !decide (x.f0.f0 < pv.f0.f0)) from rfl)
            generalize hv : wrap64 (pv.f0.f1 + 1) = pw at *
            clear hv
            have hwv := HV.out
            cases hb1 : (x.f0.f1 == pw) with
            | false =>
              have hb2 : (x.f0.f1 != pw) = true := by simp [bne, hb1]
              have HF := Aside0.mk (show okAt l0 i = false from by rw [HOK.out, HG.out, hb1]; rfl)
              clear HOK HG
              refine wp_region_below (by kernel_rfl) (by kernel_rfl) ?_
              repeat (go_big_quiet_step ((go_at_call 22; exact quietB (pglog_Entry.calls 40 x.f0.f0 x.f0.f1 x.f1.f0 x.f1.f1 x.f1.f2 x.f1.f3.f0 x.f1.f3.f1 x.f1.f3.f2 x.f1.f3.f3 x.f1.f3.f4 x.f2.f0 x.f2.f1 x.f2.f2 x.f2.f3 true _ HENT.out))))
              refine wpQuiet_nil ?_
              rintro _ ⟨nq, rfl⟩
              have HB3 := Aside0.mk (below_step HBW.out nq.h)
              clear y0 y1 y2 y3 y4 y5 y6 y7 y8 y9 y10 y11 y12 y13 hz0 hz1
              go_wp2
              go_ret
              refine ⟨?_, below_step HB.out HB3.out⟩
              rw [HL.out, okTo_of l0 hlt HF.out]; rfl
            | true =>
              have hb2 : (x.f0.f1 != pw) = false := by simp [bne, hb1]
              cases hb3 : decide (x.f0.f0 < pv.f0.f0) with
              | true =>
                have HF := Aside0.mk (show okAt l0 i = false from by rw [HOK.out, HG.out, hb1, hb3]; rfl)
                clear HOK HG
                refine wp_region_below (by kernel_rfl) (by kernel_rfl) ?_
                repeat (go_big_quiet_step ((go_at_call 22; exact quietB (pglog_Entry.calls 40 x.f0.f0 x.f0.f1 x.f1.f0 x.f1.f1 x.f1.f2 x.f1.f3.f0 x.f1.f3.f1 x.f1.f3.f2 x.f1.f3.f3 x.f1.f3.f4 x.f2.f0 x.f2.f1 x.f2.f2 x.f2.f3 true _ HENT.out))))
                refine wpQuiet_nil ?_
                rintro _ ⟨nq, rfl⟩
                have HB3 := Aside0.mk (below_step HBW.out nq.h)
                clear y0 y1 y2 y3 y4 y5 y6 y7 y8 y9 y10 y11 y12 y13 hz0 hz1
                go_wp2
                go_ret
                refine ⟨?_, below_step HB.out HB3.out⟩
                rw [HL.out, okTo_of l0 hlt HF.out]; rfl
              | false =>
                have HT := Aside0.mk (show okAt l0 i = true from by rw [HOK.out, HG.out, hb1, hb3]; rfl)
                clear HOK HG
                refine wp_region_below (by kernel_rfl) (by kernel_rfl) ?_
                repeat (go_big_quiet_step ((go_at_call 22; exact quietB (pglog_Entry.calls 40 x.f0.f0 x.f0.f1 x.f1.f0 x.f1.f1 x.f1.f2 x.f1.f3.f0 x.f1.f3.f1 x.f1.f3.f2 x.f1.f3.f3 x.f1.f3.f4 x.f2.f0 x.f2.f1 x.f2.f2 x.f2.f3 true _ HENT.out))))
                refine wpQuiet_nil ?_
                rintro _ ⟨nq, rfl⟩
                have HB3 := Aside0.mk (below_step HBW.out nq.h)
                clear y0 y1 y2 y3 y4 y5 y6 y7 y8 y9 y10 y11 y12 y13 hz0 hz1
                go_wp2
                go_roundw
                case rel => exact ⟨i + 1, by go_num, ⟨by omega, by rw [okTo_succ, HI.out.2, HT.out]; rfl⟩, HB3⟩
                case measure => simp [intOf]; omega
      · have hie : i = l0.length := by have := HI.out.1; omega
        have HTO := Aside0.mk (show okTo l0 l0.length = true from by rw [← hie]; exact HI.out.2)
        clear hie
        have HCl := Kd.C_below (Kd.C_below HR.out HB.out) HB1.out
        obtain ⟨ad, e1, ha0, ha1, _, _, _, _, _, _, _, _, _, _, _, _⟩ := at_T34 HCl ((l0.length : Int) - 1) (by have := HP.out; omega) (by omega)
        cases e1
        rw [show ((l0.length : Int) - 1).toNat = l0.length - 1 from by omega] at ha0 ha1
        obtain ⟨ad2, e2, hf0, hf1, _, _, _, _, _, _, _, _, _, _, _, _⟩ := at_T34 HCl 0 (by omega) (by have := HP.out; omega)
        cases e2
        simp only [Int.toNat_zero, Nat.zero_mul] at hf0 hf1
        have hf1b := hf1
        rw [show ad.add 0 = ad from by simp [Addr.add]] at hf1b
        have hpz2 : 0 < l0.length := HP.out
        have hs0 := HB1.out.cell (p := ⟨w.heap.size, 0, none⟩) (by simp)
        have hs1 := HB1.out.cell (p := ⟨w.heap.size, 1, none⟩) (by simp)
        rw [cell_fresh w #[.int .i64 a1_0, .int .i64 a1_1] 24 0 _ rfl] at hs0
        rw [cell_fresh w #[.int .i64 a1_0, .int .i64 a1_1] 24 1 _ rfl] at hs1
        have hpn : 0 ≤ (l0.length : Int) - 1 := by have := HP.out; omega
        have hpl : (l0.length : Int) - 1 < (l0.length : Int) := by omega
        have hpz : (0 : Int) < (l0.length : Int) := by have := HP.out; omega
        have hwi : IntKind.i64.wrap ((l0.length : Int) - 1) = (l0.length : Int) - 1 := by simp [IntKind.wrap, IntKind.signed, IntKind.bits]; omega
        generalize hq : rd_T34 l0 ((l0.length : Int) - 1) = q at *
        generalize hf : rd_T34 l0 0 = f at *
        have HLE := Aside0.mk (HL.out)
        rw [HTO.out, Bool.true_and] at HLE
        clear HCl
        by_cases h8 : l0.length ≤ 8
        · have h8b : decide ((l0.length : Int) ≤ 8) = true := decide_eq_true (by omega)
          rw [decide_eq_true h8, Bool.true_and] at HLE
          cases hat : (q.f0.f0 == a1_0 && (q.f0.f1 == a1_1)) with
          | false =>
            rw [hat] at HLE
            go_wp2
            go_quiet (fail)
            go_wp2
            go_ret
            refine ⟨?_, below_step HB.out (pw_below_drewN HB1.out _)⟩
            rw [HLE.out]
            rfl
          | true =>
            rw [hat, Bool.true_and] at HLE
            cases hv : (f.f0.f1 == 1) with
            | true =>
              rw [hv] at HLE
              go_wp2
              go_quiet (fail)
              go_wp2
              go_ret
              refine ⟨?_, below_step HB.out (pw_below_drewN HB1.out _)⟩
              rw [HLE.out]
              rfl
            | false =>
              rw [hv] at HLE
              have h8e := Aside0.mk (show ((l0.length : Int) == 8) = (l0.length == 8) from by rw [Bool.eq_iff_iff, beq_iff_eq, beq_iff_eq]; omega)
              go_wp2
              go_quiet (fail)
              go_wp2
              go_ret
              refine ⟨?_, below_step HB.out (pw_below_drewN HB1.out _)⟩
              rw [HLE.out]
              rw [← h8e.out]; rfl
        · have h8b : decide ((l0.length : Int) ≤ 8) = false := decide_eq_false (by omega)
          rw [decide_eq_false h8] at HLE
          go_wp2
          go_quiet (fail)
          go_wp2
          go_ret
          refine ⟨?_, below_step HB.out (pw_below_drewN HB1.out _)⟩
          rw [HLE.out]
          rfl
end Go.Proofs.Ytbdciklcckjknaa.P
