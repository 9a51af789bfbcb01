/- Texts of this claim, merged by pack.py: B7 -/
import Derived.Deep.RegionWith
import Derived.Test.YtbdciklcckjknaaZT01
import Derived.Test.YtbdciklcckjknaaZT14
import Derived.Test.YtbdciklcckjknaaZT08
namespace Go.Proofs.Ytbdciklcckjknaa.P
open Go.RowKit Go.Proofs.YtbdciklcckjknaaW.PrintWords Go.Proofs.YtbdciklcckjknaaW.PrintLast Go.Proofs.YtbdciklcckjknaaW.PrintMore Go.Proofs.YtbdciklcckjknaaW.HB
set_option linter.unusedVariables false
set_option linter.unusedSimpArgs false
attribute [local go_sem high] eqA81
theorem binOp_string_geq (t : TypeId) (a b : ByteArray) : Go.binOp .geq t (.string a) (.string b) = pure (.bool !(Op.bytesLess a.toList b.toList)) := by simp [Go.binOp, Op.stringOp]
attribute [local go_sem] binOp_string_geq
def whoB (c i : Int) : Bool := decide (0 ≤ c) && (decide (c < 4) && (decide (1 ≤ i) && decide (i ≤ 1073741824)))
def holdB (x : S83) : Bool := if x.f2 = true then whoB x.f3.f0 x.f3.f1 else (x.f3.f0 == 0 && x.f3.f1 == 0)
def objectB (x : S83) : Bool := nameB x.f0 && (!decide ((64 : Int) < (x.f1.size : Int)) && holdB x)
def okO (l : List S83) (i : Nat) : Bool := objectB (rd_T83 l i) && (i == 0 || Op.bytesLess (rd_T83 l ((i : Int) - 1)).f0.toList (rd_T83 l i).f0.toList)
def okOs (l : List S83) (k : Nat) : Bool := (List.range k).all (okO l)
theorem okOs_succ (l : List S83) (k : Nat) : okOs l (k + 1) = (okOs l k && okO l k) := by unfold okOs; rw [List.range_succ, List.all_append]; simp
theorem okOs_of (l : List S83) {k n : Nat} (h : k < n) (hk : okO l k = false) : okOs l n = false := by
  unfold okOs
  rw [List.all_eq_false]
  exact ⟨k, List.mem_range.2 h, by simp [hk]⟩
def objB (l : List S83) : Bool := okOs l l.length && decide ((l.length : Int) ≤ 16)
set_option maxRecDepth 100000 in
set_option maxHeartbeats 8000000 in
theorem object_client.calls' (c i : Int) (w : World) : Calls Try.prog 66 #[.agg #[.int .i64 c, .int .i64 i]] w fun e w' => e = .returned (.bool (whoB c i)) ∧ Below w.heap.size w w' := by
  have hu := Try.underlying81
  cases h0 : decide (0 ≤ c) with
  | false =>
    go_enter Try.func66, Try.ntmps66
    go_wp2
    go_ret
    exact ⟨by unfold whoB; rw [h0]; rfl, below_alloc (Below.refl _ _) _⟩
  | true =>
    cases h1 : decide (c < 4) with
    | false =>
      go_enter Try.func66, Try.ntmps66
      go_wp2
      go_ret
      exact ⟨by unfold whoB; rw [h0, h1]; rfl, below_alloc (Below.refl _ _) _⟩
    | true =>
      cases h2 : decide (1 ≤ i) with
      | false =>
        go_enter Try.func66, Try.ntmps66
        go_wp2
        go_ret
        exact ⟨by unfold whoB; rw [h0, h1, h2]; rfl, below_alloc (Below.refl _ _) _⟩
      | true =>
        go_enter Try.func66, Try.ntmps66
        go_wp2
        go_ret
        exact ⟨by unfold whoB; rw [h0, h1, h2]; rfl, below_alloc (Below.refl _ _) _⟩
set_option maxRecDepth 100000 in
set_option maxHeartbeats 8000000 in
theorem reefref19_Who.calls' (c i : Int) (w : World) : Calls Try.prog 81 #[.agg #[.int .i64 c, .int .i64 i]] w fun e w' => e = .returned (.bool (whoB c i)) ∧ Below w.heap.size w w' := by
  have hu := Try.underlying81
  cases h0 : decide (0 ≤ c) with
  | false =>
    go_enter Try.func81, Try.ntmps81
    go_wp2
    go_ret
    exact ⟨by unfold whoB; rw [h0]; rfl, below_alloc (Below.refl _ _) _⟩
  | true =>
    cases h1 : decide (c < 4) with
    | false =>
      go_enter Try.func81, Try.ntmps81
      go_wp2
      go_ret
      exact ⟨by unfold whoB; rw [h0, h1]; rfl, below_alloc (Below.refl _ _) _⟩
    | true =>
      cases h2 : decide (1 ≤ i) with
      | false =>
        go_enter Try.func81, Try.ntmps81
        go_wp2
        go_ret
        exact ⟨by unfold whoB; rw [h0, h1, h2]; rfl, below_alloc (Below.refl _ _) _⟩
      | true =>
        go_enter Try.func81, Try.ntmps81
        go_wp2
        go_ret
        exact ⟨by unfold whoB; rw [h0, h1, h2]; rfl, below_alloc (Below.refl _ _) _⟩
theorem object_in {w w1 : World} {o : Obj} (h : Below (w.alloc o).heap.size (w.alloc o) w1) : (∀ k, w1.cell? ⟨w.heap.size, k, none⟩ = (w.alloc o).cell? ⟨w.heap.size, k, none⟩) ∧ Below w.heap.size w w1 :=
  ⟨fun k => h.cell (p := ⟨w.heap.size, k, none⟩) (by show w.heap.size < _; rw [World.size_alloc]; exact Nat.lt_succ_self _), below_step (below_alloc (Below.refl _ _) _) h⟩
set_option maxRecDepth 100000 in
set_option maxHeartbeats 8000000 in
theorem object_walk (s d : ByteArray) (lk : Bool) (c i : Int) (nm wh : Bool) (w : World)
    (hn : ∀ W0, Calls Try.prog 62 #[.string s] W0 fun e w' => e = .returned (.bool nm) ∧ Below W0.heap.size W0 w')
    (hw : ∀ W0, Calls Try.prog 81 #[.agg #[.int .i64 c, .int .i64 i]] W0 fun e w' => e = .returned (.bool wh) ∧ Below W0.heap.size W0 w') :
    Calls Try.prog 68 #[.agg #[.string s, .string d, .bool lk, .int .i64 c, .int .i64 i]] w fun e w' => e = .returned (.bool (nm && (!decide ((64 : Int) < (d.size : Int)) && (if lk = true then wh else (c == 0 && i == 0))))) ∧ Below w.heap.size w w' := by
  have hu := Try.underlying83
  have hu2 := Try.underlying81
  have HN := Aside0.mk hn
  have HW := Aside0.mk hw
  clear hn hw
  cases nm with
  | false =>
    go_enter Try.func68, Try.ntmps68
    go_wp2_with ((go_at_call 62; refine (HN.out _).mono ?_; rintro e' w1 ⟨rfl, hD⟩; obtain ⟨ca, hB⟩ := object_in hD; have HB1 := Aside0.mk hB; clear hD hB))
    all_goals go_ret
    all_goals exact ⟨rfl, HB1.out⟩
  | true =>
    cases h64 : decide ((64 : Int) < (d.size : Int)) with
    | true =>
      go_enter Try.func68, Try.ntmps68
      go_wp2_with ((go_at_call 62; refine (HN.out _).mono ?_; rintro e' w1 ⟨rfl, hD⟩; obtain ⟨ca, hB⟩ := object_in hD; have HB1 := Aside0.mk hB; clear hD hB))
      all_goals go_ret
      all_goals exact ⟨rfl, HB1.out⟩
    | false =>
      cases lk with
      | true =>
        go_enter Try.func68, Try.ntmps68
        go_wp2_with (first | (go_at_call 62; refine (HN.out _).mono ?_; rintro e' w1 ⟨rfl, hD⟩; obtain ⟨ca, hB⟩ := object_in hD; have HB1 := Aside0.mk hB; clear hD hB) | (go_at_call 81; refine (HW.out _).mono ?_; rintro e' w2 ⟨rfl, hD⟩; have HB2 := Aside0.mk (below_step HB1.out hD); clear hD))
        all_goals go_ret
        all_goals exact ⟨rfl, HB2.out⟩
      | false =>
        go_enter Try.func68, Try.ntmps68
        go_wp2_with ((go_at_call 62; refine (HN.out _).mono ?_; rintro e' w1 ⟨rfl, hD⟩; obtain ⟨ca, hB⟩ := object_in hD; have HB1 := Aside0.mk hB; clear hD hB))
        all_goals go_ret
        all_goals exact ⟨rfl, HB1.out⟩
theorem reefref19_Object.calls' (x : S83) (hx : x.f0.size ≤ 4611686018427387904) (w : World) : Calls Try.prog 68 #[.agg #[.string x.f0, .string x.f1, .bool x.f2, .int .i64 x.f3.f0, .int .i64 x.f3.f1]] w fun e w' => e = .returned (.bool (objectB x)) ∧ Below w.heap.size w w' :=
  object_walk x.f0 x.f1 x.f2 x.f3.f0 x.f3.f1 _ _ w (fun W0 => (reefref19_Name.calls (x.f0.size + 1) x.f0 (nameB x.f0) W0 (rname_eq x.f0 hx)).mono fun _ _ h => ⟨h.1, h.2.below⟩) (fun W0 => reefref19_Who.calls' x.f3.f0 x.f3.f1 W0)
theorem ocells' {W : World} {b : Nat} {s d : ByteArray} {lk : Bool} {c t : Int} (h : W.heap[b]? = some (.cells #[.string s, .string d, .bool lk, .int .i64 c, .int .i64 t] 83 (0, 0))) : W.cell? ⟨b, 0, none⟩ = some (.string s) ∧ W.cell? ⟨b, 1, none⟩ = some (.string d) ∧ W.cell? ⟨b, 2, none⟩ = some (.bool lk) ∧ W.cell? ⟨b, 3, none⟩ = some (.int .i64 c) ∧ W.cell? ⟨b, 4, none⟩ = some (.int .i64 t) := by
  simp [World.cell?, h]
set_option maxRecDepth 100000 in
set_option maxHeartbeats 8000000 in
theorem object_Fit.calls (A0 : Option Addr) (c0 : Nat) (l0 : List S83) (w : World) (hr0 : Kd.C k83 w A0 l0.length l0) (hc0 : l0.length ≤ c0) :
    Calls Try.prog 46 #[.slice A0 l0.length c0] w fun e w' => e = .returned (.bool (objB l0)) ∧ Below w.heap.size w w' := by
  have HR := Aside0.mk hr0
  have HC := Aside0.mk hc0
  have hlen := hr0.2.1
  clear hr0 hc0
  have hu := Try.underlying83
  have hu2 := Try.underlying81
  cases h16 : decide ((16 : Int) < (l0.length : Int)) with
  | true =>
    have HL := Aside0.mk (show objB l0 = false from by unfold objB; rw [decide_eq_false (show ¬ (l0.length : Int) ≤ 16 from by have := of_decide_eq_true h16; omega), Bool.and_false])
    go_enter Try.func46, Try.ntmps46
    go_wp2
    go_ret
    exact ⟨by rw [HL.out]; rfl, Below.refl _ _⟩
  | false =>
    have HL := Aside0.mk (show objB l0 = okOs l0 l0.length from by unfold objB; rw [decide_eq_true (show (l0.length : Int) ≤ 16 from by have := of_decide_eq_false h16; omega), Bool.and_true])
    go_enter Try.func46, Try.ntmps46
    go_wp2
    go_loopw [10] (fun v7 w' => ∃ i : Nat, v7 = .int .i64 i ∧ Aside0 (i ≤ l0.length ∧ okOs l0 i = true) ∧ Aside0 (Below w.heap.size w w')) (fun v _ => l0.length - (intOf v).toNat)
    case atStart => exact ⟨0, rfl, ⟨by omega, rfl⟩, ⟨Below.refl _ _⟩⟩
    case round =>
      obtain ⟨i, rfl, HI, HB1⟩ := hrel
      by_cases hlt : i < l0.length
      · obtain ⟨ad, e1, hx0, hx1, hx2, hx3, hx4⟩ := at_T83 (Kd.C_below HR.out HB1.out) (i : Int) (by omega) (by omega)
        cases e1
        simp only [Int.toNat_natCast] at hx0 hx1 hx2 hx3 hx4
        generalize hx : rd_T83 l0 (i : Int) = x at *
        have HOK := Aside0.mk (show okO l0 i = ((nameB x.f0 && (!decide ((64 : Int) < (x.f1.size : Int)) && (if x.f2 = true then whoB x.f3.f0 x.f3.f1 else (x.f3.f0 == 0 && x.f3.f1 == 0)))) && (i == 0 || Op.bytesLess (rd_T83 l0 ((i : Int) - 1)).f0.toList x.f0.toList)) from by unfold okO objectB holdB; rw [hx])
        have HN := Aside0.mk (fun W0 => (object_Name.calls 40 x.f0 (nameB x.f0) W0 (oname_eq x.f0)).mono fun _ _ h => (⟨h.1, h.2.below⟩ : _ ∧ Below W0.heap.size W0 _))
        have HC1 := Aside0.mk (fun W0 => object_client.calls' x.f3.f0 x.f3.f1 W0)
        clear hx
        obtain ⟨s, d, lk, hold⟩ := x
        obtain ⟨c, t⟩ := hold
        simp only at hx0 hx1 hx2 hx3 hx4
        replace HOK : Aside0 (okO l0 i = ((nameB s && (!decide ((64 : Int) < (d.size : Int)) && (if lk = true then whoB c t else (c == 0 && t == 0)))) && (i == 0 || Op.bytesLess (rd_T83 l0 ((i : Int) - 1)).f0.toList s.toList))) := HOK
        generalize nameB s = nm at *
        generalize whoB c t = wh at *
        replace HN : Aside0 (∀ W0, Calls Try.prog 59 #[.string s] W0 fun e w' => e = .returned (.bool nm) ∧ Below W0.heap.size W0 w') := HN
        replace HC1 : Aside0 (∀ W0, Calls Try.prog 66 #[.agg #[.int .i64 c, .int .i64 t]] W0 fun e w' => e = .returned (.bool wh) ∧ Below W0.heap.size W0 w') := HC1
        go_wp2
        obtain ⟨bx, hbx⟩ : ∃ bx, bx = wr.heap.size := ⟨_, rfl⟩
        rw [← hbx]
        obtain ⟨W, hW⟩ : ∃ W, W = wr.alloc (.cells #[.string s, .string d, .bool lk, .int .i64 c, .int .i64 t] 83) := ⟨_, rfl⟩
        rw [← hW]
        have hBW := below_alloc (Below.refl wr.heap.size wr) (.cells #[.string s, .string d, .bool lk, .int .i64 c, .int .i64 t] 83)
        rw [← hW] at hBW
        have HBW := Aside0.mk (below_step HB1.out hBW)
        have hcx : W.heap[bx]? = some (.cells #[.string s, .string d, .bool lk, .int .i64 c, .int .i64 t] 83 (0, 0)) := by rw [hW, hbx]; exact World.alloc_heap_new wr _
        clear hx0 hx1 hx2 hx3 hx4 hW hbx hBW
        obtain ⟨y0, y1, y2, y3, y4⟩ := ocells' hcx
        clear hcx
        have HCW := Aside0.mk (Kd.C_below HR.out HBW.out)
        replace y0 := BelowOf.cell y0
        replace y1 := BelowOf.cell y1
        replace y2 := BelowOf.cell y2
        replace y3 := BelowOf.cell y3
        replace y4 := BelowOf.cell y4
        cases hnm : nm with
        | false =>
          subst hnm
          have HF := Aside0.mk (show okO l0 i = false from HOK.out)
          clear HOK
          refine wp_region_below (by kernel_rfl) (by kernel_rfl) ?_
          repeat (go_big_quiet_step ((go_at_call 59; exact quietB (HN.out _))))
          refine wpQuiet_nil ?_
          rintro _ ⟨nq, rfl⟩
          have HB3 := Aside0.mk (below_step HBW.out nq.h)
          clear y0 y1 y2 y3 y4
          go_wp2
          go_ret
          refine ⟨?_, HB3.out⟩
          rw [HL.out, okOs_of l0 hlt HF.out]; rfl
        | true =>
          subst hnm
          rcases Nat.eq_zero_or_pos i with hi | hi
          · subst hi
            have hd : decide (((0 : Nat) : Int) > 0) = false := rfl
            cases h64 : decide ((64 : Int) < (d.size : Int)) with
            | true =>
              have HF := Aside0.mk (show okO l0 0 = false from by rw [HOK.out, h64]; rfl)
              clear HOK
              refine wp_region_below (by kernel_rfl) (by kernel_rfl) ?_
              repeat (go_big_quiet_step ((go_at_call 59; exact quietB (HN.out _))))
              refine wpQuiet_nil ?_
              rintro _ ⟨nq, rfl⟩
              have HB3 := Aside0.mk (below_step HBW.out nq.h)
              clear y0 y1 y2 y3 y4
              go_wp2
              go_ret
              refine ⟨?_, HB3.out⟩
              rw [HL.out, okOs_of l0 hlt HF.out]; rfl
            | false =>
              replace HOK : Aside0 (okO l0 0 = (if lk = true then wh else (c == 0 && t == 0))) := ⟨by rw [HOK.out, h64]; simp⟩
              refine wp_region_below (by kernel_rfl) (by kernel_rfl) ?_
              repeat (go_big_quiet_step ((go_at_call 59; exact quietB (HN.out _))))
              refine wpQuiet_nil ?_
              rintro _ ⟨nq, rfl⟩
              have HB3 := Aside0.mk (below_step HBW.out nq.h)
              have z0 := y0 nq
              have z1 := y1 nq
              have z2 := y2 nq
              have z3 := y3 nq
              have z4 := y4 nq
              clear y0 y1 y2 y3 y4
              cases hlk : lk with
              | true =>
                subst hlk
                cases hwh : wh with
                | true =>
                  subst hwh
                  have HT := Aside0.mk (show okO l0 0 = true from HOK.out)
                  clear HOK
                  go_wp2_with (go_at_call 66; refine (HC1.out _).mono ?_; rintro e' w4 ⟨rfl, hD⟩; have HB4 := Aside0.mk (below_step HB3.out hD); replace z2 := pw_cell_below hD z2; replace z3 := pw_cell_below hD z3; replace z4 := pw_cell_below hD z4; clear hD)
                  go_roundw
                  case rel => exact ⟨1, by go_num, ⟨by omega, by rw [okOs_succ, HI.out.2, HT.out]; rfl⟩, HB4⟩
                  case measure => simp [intOf]; omega
                | false =>
                  subst hwh
                  have HF := Aside0.mk (show okO l0 0 = false from HOK.out)
                  clear HOK
                  go_wp2_with (go_at_call 66; refine (HC1.out _).mono ?_; rintro e' w4 ⟨rfl, hD⟩; have HB4 := Aside0.mk (below_step HB3.out hD); replace z2 := pw_cell_below hD z2; replace z3 := pw_cell_below hD z3; replace z4 := pw_cell_below hD z4; clear hD)
                  go_ret
                  refine ⟨?_, HB4.out⟩
                  rw [HL.out, okOs_of l0 hlt HF.out]; rfl
              | false =>
                subst hlk
                cases hze : (c == 0 && (t == 0)) with
                | true =>
                  have HT := Aside0.mk (show okO l0 0 = true from by rw [HOK.out, hze]; rfl)
                  clear HOK
                  go_wp2
                  go_roundw
                  case rel => exact ⟨1, by go_num, ⟨by omega, by rw [okOs_succ, HI.out.2, HT.out]; rfl⟩, HB3⟩
                  case measure => simp [intOf]; omega
                | false =>
                  have HF := Aside0.mk (show okO l0 0 = false from by rw [HOK.out, hze]; rfl)
                  clear HOK
                  go_wp2
                  go_ret
                  refine ⟨?_, HB3.out⟩
                  rw [HL.out, okOs_of l0 hlt HF.out]; rfl
          · have hd : decide ((i : Int) > 0) = true := decide_eq_true (by omega)
            obtain ⟨ad2, e2, hz0, _, _, _, _⟩ := at_T83 HCW.out ((i : Int) - 1) (by omega) (by omega)
            cases e2
            rw [show ((i : Int) - 1).toNat = i - 1 from by omega] at hz0
            replace hz0 := BelowOf.cell hz0
            have hi0 : (i == 0) = false := by rw [beq_eq_false_iff_ne]; omega
            rw [hi0] at HOK
            generalize hp : rd_T83 l0 ((i : Int) - 1) = pv at *
            clear hp hi0
            have hpn : 0 ≤ (i : Int) - 1 := by omega
            have hpl : (i : Int) - 1 < (l0.length : Int) := by omega
            have hwi : IntKind.i64.wrap ((i : Int) - 1) = (i : Int) - 1 := by simp [IntKind.wrap, IntKind.signed, IntKind.bits]; omega
            cases hb1 : Op.bytesLess pv.f0.toList s.toList with
            | false =>
              have HF := Aside0.mk (show okO l0 i = false from by rw [HOK.out, hb1]; simp)
              clear HOK
              refine wp_region_below (by kernel_rfl) (by kernel_rfl) ?_
              repeat (go_big_quiet_step ((go_at_call 59; exact quietB (HN.out _))))
              refine wpQuiet_nil ?_
              rintro _ ⟨nq, rfl⟩
              have HB3 := Aside0.mk (below_step HBW.out nq.h)
              clear y0 y1 y2 y3 y4 hz0
              go_wp2
              go_ret
              refine ⟨?_, HB3.out⟩
              rw [HL.out, okOs_of l0 hlt HF.out]; rfl
            | true =>
              cases h64 : decide ((64 : Int) < (d.size : Int)) with
              | true =>
                have HF := Aside0.mk (show okO l0 i = false from by rw [HOK.out, h64]; simp)
                clear HOK
                refine wp_region_below (by kernel_rfl) (by kernel_rfl) ?_
                repeat (go_big_quiet_step ((go_at_call 59; exact quietB (HN.out _))))
                refine wpQuiet_nil ?_
                rintro _ ⟨nq, rfl⟩
                have HB3 := Aside0.mk (below_step HBW.out nq.h)
                clear y0 y1 y2 y3 y4 hz0
                go_wp2
                go_ret
                refine ⟨?_, HB3.out⟩
                rw [HL.out, okOs_of l0 hlt HF.out]; rfl
              | false =>
                replace HOK : Aside0 (okO l0 i = (if lk = true then wh else (c == 0 && t == 0))) := ⟨by rw [HOK.out, h64, hb1]; simp⟩
                refine wp_region_below (by kernel_rfl) (by kernel_rfl) ?_
                repeat (go_big_quiet_step ((go_at_call 59; exact quietB (HN.out _))))
                refine wpQuiet_nil ?_
                rintro _ ⟨nq, rfl⟩
                have HB3 := Aside0.mk (below_step HBW.out nq.h)
                clear hz0
                have z0 := y0 nq
                have z1 := y1 nq
                have z2 := y2 nq
                have z3 := y3 nq
                have z4 := y4 nq
                clear y0 y1 y2 y3 y4
                cases hlk : lk with
                | true =>
                  subst hlk
                  cases hwh : wh with
                  | true =>
                    subst hwh
                    have HT := Aside0.mk (show okO l0 i = true from HOK.out)
                    clear HOK
                    go_wp2_with (go_at_call 66; refine (HC1.out _).mono ?_; rintro e' w4 ⟨rfl, hD⟩; have HB4 := Aside0.mk (below_step HB3.out hD); replace z2 := pw_cell_below hD z2; replace z3 := pw_cell_below hD z3; replace z4 := pw_cell_below hD z4; clear hD)
                    go_roundw
                    case rel => exact ⟨i + 1, by go_num, ⟨by omega, by rw [okOs_succ, HI.out.2, HT.out]; rfl⟩, HB4⟩
                    case measure => simp [intOf]; omega
                  | false =>
                    subst hwh
                    have HF := Aside0.mk (show okO l0 i = false from HOK.out)
                    clear HOK
                    go_wp2_with (go_at_call 66; refine (HC1.out _).mono ?_; rintro e' w4 ⟨rfl, hD⟩; have HB4 := Aside0.mk (below_step HB3.out hD); replace z2 := pw_cell_below hD z2; replace z3 := pw_cell_below hD z3; replace z4 := pw_cell_below hD z4; clear hD)
                    go_ret
                    refine ⟨?_, HB4.out⟩
                    rw [HL.out, okOs_of l0 hlt HF.out]; rfl
                | false =>
                  subst hlk
                  cases hze : (c == 0 && (t == 0)) with
                  | true =>
                    have HT := Aside0.mk (show okO l0 i = true from by rw [HOK.out, hze]; rfl)
                    clear HOK
                    go_wp2
                    go_roundw
                    case rel => exact ⟨i + 1, by go_num, ⟨by omega, by rw [okOs_succ, HI.out.2, HT.out]; rfl⟩, HB3⟩
                    case measure => simp [intOf]; omega
                  | false =>
                    have HF := Aside0.mk (show okO l0 i = false from by rw [HOK.out, hze]; rfl)
                    clear HOK
                    go_wp2
                    go_ret
                    refine ⟨?_, HB3.out⟩
                    rw [HL.out, okOs_of l0 hlt HF.out]; rfl
      · have hie : i = l0.length := by have := HI.out.1; omega
        have HTO := Aside0.mk (show okOs l0 l0.length = true from by rw [← hie]; exact HI.out.2)
        clear hie
        go_wp2
        go_ret
        refine ⟨?_, HB1.out⟩
        rw [HL.out, HTO.out]; rfl
theorem rd_at_O (l : List S83) (i : Nat) (h : i < l.length) : rd_T83 l (i : Int) = l[i] := by unfold rd_T83; rw [Int.toNat_natCast, List.getD_eq_getElem?_getD, List.getElem?_eq_getElem h]; rfl
set_option maxRecDepth 100000 in
set_option maxHeartbeats 8000000 in
theorem reefref19_Fit.calls (A0 : Option Addr) (c0 : Nat) (l0 : List S83) (hf : ∀ z ∈ l0, z.f0.size ≤ 4611686018427387904) (w : World) (hr0 : Kd.C k83 w A0 l0.length l0) (hc0 : l0.length ≤ c0) :
    Calls Try.prog 49 #[.slice A0 l0.length c0] w fun e w' => e = .returned (.bool (objB l0)) ∧ Below w.heap.size w w' := by
  have HR := Aside0.mk hr0
  have HC := Aside0.mk hc0
  have HFZ := Aside0.mk hf
  have hlen := hr0.2.1
  clear hr0 hc0 hf
  have hu := Try.underlying83
  have HL := Aside0.mk (show objB l0 = (okOs l0 l0.length && decide ((l0.length : Int) ≤ 16)) from rfl)
  go_enter Try.func49, Try.ntmps49
  go_wp2
  go_loopw [3] (fun v7 w' => ∃ i : Nat, v7 = .int .i64 i ∧ Aside0 (i ≤ l0.length ∧ okOs l0 i = true) ∧ Aside0 (i ≤ 16) ∧ Aside0 (Below w.heap.size w w')) (fun v _ => l0.length - (intOf v).toNat)
  case atStart => exact ⟨0, rfl, ⟨by omega, rfl⟩, ⟨by omega⟩, ⟨Below.refl _ _⟩⟩
  case round =>
    obtain ⟨i, rfl, HI, HI16, HB1⟩ := hrel
    by_cases hlt : i < l0.length
    · obtain ⟨ad, e1, y0, y1, y2, y3, y4⟩ := at_T83 (Kd.C_below HR.out HB1.out) (i : Int) (by omega) (by omega)
      cases e1
      simp only [Int.toNat_natCast] at y0 y1 y2 y3 y4
      have hxs : (rd_T83 l0 (i : Int)).f0.size ≤ 4611686018427387904 := HFZ.out _ (by rw [rd_at_O l0 i hlt]; exact List.getElem_mem _)
      generalize hx : rd_T83 l0 (i : Int) = x at *
      have HOK := Aside0.mk (show okO l0 i = (objectB x && (i == 0 || Op.bytesLess (rd_T83 l0 ((i : Int) - 1)).f0.toList x.f0.toList)) from by unfold okO; rw [hx])
      have HO := Aside0.mk (fun W0 => reefref19_Object.calls' x hxs W0)
      clear hx hxs
      have HCW := Aside0.mk (Kd.C_below HR.out HB1.out)
      go_wp2
      replace y0 := BelowOf.cell y0
      replace y1 := BelowOf.cell y1
      replace y2 := BelowOf.cell y2
      replace y3 := BelowOf.cell y3
      replace y4 := BelowOf.cell y4
      have hi0n : 0 ≤ (i : Int) := by omega
      have hiln : (i : Int) < (l0.length : Int) := by omega
      generalize objectB x = ob at *
      replace HO : Aside0 (∀ W0, Calls Try.prog 68 #[.agg #[.string x.f0, .string x.f1, .bool x.f2, .int .i64 x.f3.f0, .int .i64 x.f3.f1]] W0 fun e w' => e = .returned (.bool ob) ∧ Below W0.heap.size W0 w') := HO
      cases h16 : decide ((16 : Int) ≤ (i : Int)) with
      | true =>
        have HF := Aside0.mk (show objB l0 = false from by rw [HL.out, decide_eq_false (show ¬ (l0.length : Int) ≤ 16 from by have := of_decide_eq_true h16; omega), Bool.and_false])
        clear HOK
        refine wp_region_below (by kernel_rfl) (by kernel_rfl) ?_
        repeat (go_big_quiet_step ((go_at_call 68; exact quietB (HO.out _))))
        refine wpQuiet_nil ?_
        rintro _ ⟨nq, rfl⟩
        have HB3 := Aside0.mk (below_step HB1.out nq.h)
        clear y0 y1 y2 y3 y4
        go_wp2
        go_ret
        refine ⟨?_, HB3.out⟩
        rw [HF.out]; rfl
      | false =>
        have HI17 := Aside0.mk (show i + 1 ≤ 16 from by have := of_decide_eq_false h16; omega)
        cases hob : ob with
        | false =>
          subst hob
          have HF := Aside0.mk (show okO l0 i = false from HOK.out)
          clear HOK
          refine wp_region_below (by kernel_rfl) (by kernel_rfl) ?_
          repeat (go_big_quiet_step ((go_at_call 68; exact quietB (HO.out _))))
          refine wpQuiet_nil ?_
          rintro _ ⟨nq, rfl⟩
          have HB3 := Aside0.mk (below_step HB1.out nq.h)
          clear y0 y1 y2 y3 y4
          go_wp2
          go_ret
          refine ⟨?_, HB3.out⟩
          rw [HL.out, okOs_of l0 hlt HF.out]; rfl
        | true =>
          subst hob
          rcases Nat.eq_zero_or_pos i with hi | hi
          · have hd : decide (0 < i) = false := by rw [hi]; rfl
            have HT := Aside0.mk (show okO l0 i = true from by rw [HOK.out, hi]; rfl)
            clear HOK hi
            refine wp_region_below (by kernel_rfl) (by kernel_rfl) ?_
            repeat (go_big_quiet_step ((go_at_call 68; exact quietB (HO.out _))))
            refine wpQuiet_nil ?_
            rintro _ ⟨nq, rfl⟩
            have HB3 := Aside0.mk (below_step HB1.out nq.h)
            clear y0 y1 y2 y3 y4
            go_wp2
            go_roundw
            case rel => exact ⟨i + 1, by go_num, ⟨by omega, by rw [okOs_succ, HI.out.2, HT.out]; rfl⟩, HI17, HB3⟩
            case measure => simp [intOf]; omega
          · have hd : decide ((i : Int) > 0) = true := decide_eq_true (by omega)
            obtain ⟨ad2, e2, hz0, _, _, _, _⟩ := at_T83 HCW.out ((i : Int) - 1) (by omega) (by omega)
            cases e2
            rw [show ((i : Int) - 1).toNat = i - 1 from by omega] at hz0
            replace hz0 := BelowOf.cell hz0
            have hi0 : (i == 0) = false := by rw [beq_eq_false_iff_ne]; omega
            rw [hi0] at HOK
            generalize hp : rd_T83 l0 ((i : Int) - 1) = pv at *
            clear hp hi0
            have hpn : 0 ≤ (i : Int) - 1 := by omega
            have hpl : (i : Int) - 1 < (l0.length : Int) := by omega
            have hwi : IntKind.i64.wrap ((i : Int) - 1) = (i : Int) - 1 := by simp [IntKind.wrap, IntKind.signed, IntKind.bits]; omega
            cases hb1 : Op.bytesLess pv.f0.toList x.f0.toList with
            | false =>
              have HF := Aside0.mk (show okO l0 i = false from by rw [HOK.out, hb1]; simp)
              clear HOK
              refine wp_region_below (by kernel_rfl) (by kernel_rfl) ?_
              repeat (go_big_quiet_step ((go_at_call 68; exact quietB (HO.out _))))
              refine wpQuiet_nil ?_
              rintro _ ⟨nq, rfl⟩
              have HB3 := Aside0.mk (below_step HB1.out nq.h)
              clear y0 y1 y2 y3 y4 hz0
              go_wp2
              go_ret
              refine ⟨?_, HB3.out⟩
              rw [HL.out, okOs_of l0 hlt HF.out]; rfl
            | true =>
              have HT := Aside0.mk (show okO l0 i = true from by rw [HOK.out, hb1]; simp)
              clear HOK
              refine wp_region_below (by kernel_rfl) (by kernel_rfl) ?_
              repeat (go_big_quiet_step ((go_at_call 68; exact quietB (HO.out _))))
              refine wpQuiet_nil ?_
              rintro _ ⟨nq, rfl⟩
              have HB3 := Aside0.mk (below_step HB1.out nq.h)
              clear y0 y1 y2 y3 y4 hz0
              go_wp2
              go_roundw
              case rel => exact ⟨i + 1, by go_num, ⟨by omega, by rw [okOs_succ, HI.out.2, HT.out]; rfl⟩, HI17, HB3⟩
              case measure => simp [intOf]; omega
    · have hie : i = l0.length := by have := HI.out.1; omega
      have HTO := Aside0.mk (show objB l0 = true from by rw [HL.out, ← hie, HI.out.2, decide_eq_true (show (i : Int) ≤ 16 from by have := HI16.out; omega)]; rfl)
      clear hie
      go_wp2
      go_ret
      refine ⟨?_, HB1.out⟩
      rw [HTO.out]; rfl
end Go.Proofs.Ytbdciklcckjknaa.P
