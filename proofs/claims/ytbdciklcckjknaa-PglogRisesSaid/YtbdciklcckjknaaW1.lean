import Derived.Deep.DeepCutAuto
import Derived.Test.YtbdciklcckjknaaB9
import Derived.Test.YtbdciklcckjknaaHQ
import Derived.Test.YtbdciklcckjknaaQ2
import Derived.Test.YtbdciklcckjknaaPEq4
namespace Go.Proofs.Ytbdciklcckjknaa.P
open Go.RowKit Go.Proofs.YtbdciklcckjknaaW.PrintWords Go.Proofs.YtbdciklcckjknaaW.PrintLast Go.Proofs.YtbdciklcckjknaaW.PrintMore Go.Proofs.YtbdciklcckjknaaW.HB
set_option linter.unusedVariables false
set_option linter.unusedSimpArgs false
attribute [local go_sem high] eqA24 eqA34
attribute [local go_sem] max2_int min2_int max_two min_two

theorem Q_baseA {α : Type} {d : Kd α} {e n c base : Nat} {w : World} {ok : Nat → Prop} {A : Option Addr} {xs : List α} (h : Kd.Q d e w base ok (.slice A n c) xs) : ∀ ad, A = some ad → base ≤ ad.block := by
  rintro ad rfl
  rcases Kd.Q_base2 h with h1 | ⟨k, h1, h2⟩
  · simp [Value.ownBlock] at h1
  · have : ad.block = k := by simpa [Value.ownBlock] using h1
    omega
theorem C_far {α : Type} {d : Kd α} {W : World} {A : Option Addr} {n : Nat} {xs : List α} (hK : ∀ W W' x cs, d.K W x cs → d.K W' x cs) (h : Kd.C d W A n xs) (p : Addr) (u : Value) (hA : ∀ ad, A = some ad → 0 < n → ad.block ≠ p.block) : Kd.C d (W.setCell p u) A n xs := by
  refine ⟨h.1, h.2.1, fun hn => ?_⟩
  obtain ⟨ad, e, hc⟩ := h.2.2 hn
  refine ⟨ad, e, fun j q hj => ?_⟩
  obtain ⟨c, h1, h2, h3⟩ := hc j q hj
  refine ⟨c, h1, hK _ _ _ _ h2, fun i u hu => (World.cell?_setCell_other _ _ _ _ (fun e' => ?_)).trans (h3 i u hu)⟩
  have := hA ad e hn
  have e2 := congrArg Addr.block e'
  first
    | (rw [add_block] at e2; exact this e2.symm)
    | (rw [add_block] at e2; exact this e2)

def latB (a0 a1 b0 b1 : Int) : Bool := decide (a0 > b0 ∨ a0 = b0 ∧ a1 > b1)
theorem lat_eq (a0 a1 b0 b1 : Int) : pglog_Later.f a0 a1 b0 b1 = some (latB a0 a1 b0 b1) := by
  unfold pglog_Later.f latB
  by_cases h1 : a0 > b0
  · rw [if_pos h1, decide_eq_true (.inl h1)]
  · rw [if_neg h1]
    by_cases h2 : a0 = b0
    · rw [if_pos h2]
      congr 1
      rw [Bool.eq_iff_iff, decide_eq_true_iff, decide_eq_true_iff]
      omega
    · rw [if_neg h2, decide_eq_false (by omega)]
set_option maxRecDepth 100000 in
set_option maxHeartbeats 8000000 in
theorem reeflaw21_PglogRises.calls (A0 : Option Addr) (c0 : Nat) (l0 : List S34) (a0 a1 b0 b1 d0 d1 : Int) (w : World) (hr0 : Kd.C k34 w A0 l0.length l0) (hc0 : l0.length ≤ c0) (hln : l0.length ≤ 1034834473201) :
    Calls Try.prog 3 #[.slice A0 l0.length c0, .agg #[.int .i64 a0, .int .i64 a1], .agg #[.int .i64 b0, .int .i64 b1], .agg #[.int .i64 d0, .int .i64 d1]] w fun e w' => e = .returned (.bool true) ∧ Below w.heap.size w w' := by
  have HR := Aside0.mk hr0
  have HC := Aside0.mk hc0
  have HLN := Aside0.mk hln
  clear hr0 hc0 hln
  have hu := Try.underlying34
  have hu2 := Try.underlying24
  have hz2 := Try.zeroValue24
  have Haa := Aside0.mk ((lat_eq a0 a1 a0 a1).trans (congrArg some (show latB a0 a1 a0 a1 = false from by unfold latB; simp)))
  have Hab := Aside0.mk (lat_eq a0 a1 b0 b1)
  have Hba := Aside0.mk (lat_eq b0 b1 a0 a1)
  have Hbd := Aside0.mk (lat_eq b0 b1 d0 d1)
  have Had := Aside0.mk (lat_eq a0 a1 d0 d1)
  have K1 : latB a0 a1 b0 b1 = true → latB b0 b1 a0 a1 = false := by unfold latB; simp; omega
  have K2 : latB a0 a1 b0 b1 = true → latB b0 b1 d0 d1 = true → latB a0 a1 d0 d1 = true := by unfold latB; simp; omega
  have K3 : latB a0 a1 b0 b1 = false → latB b0 b1 a0 a1 = false → a0 = b0 ∧ a1 = b1 := by unfold latB; simp; omega
  have K4 : latB a0 a1 b0 b1 = true ∨ latB b0 b1 a0 a1 = true → (a0 == b0 && (a1 == b1)) = false := by unfold latB; simp; omega
  generalize latB a0 a1 b0 b1 = ab at *
  generalize latB b0 b1 a0 a1 = ba at *
  generalize latB b0 b1 d0 d1 = bd at *
  generalize latB a0 a1 d0 d1 = ad at *
  go_enter Try.func3, Try.ntmps3
  go_upto_region 1 with (fail)
  obtain ⟨W3, hW3⟩ : ∃ W3, W3 = (((w.alloc (Obj.cells #[Value.int IntKind.i64 a0, Value.int IntKind.i64 a1] 24)).alloc (Obj.cells #[Value.int IntKind.i64 b0, Value.int IntKind.i64 b1] 24)).alloc (Obj.cells #[Value.int IntKind.i64 d0, Value.int IntKind.i64 d1] 24)) := ⟨_, rfl⟩
  rw [← hW3]
  have HBW := Aside0.mk (show Below w.heap.size w W3 from by rw [hW3]; exact below_alloc (below_alloc (below_alloc (Below.refl _ _) _) _) _)
  have x0 : W3.cell? ⟨w.heap.size, 0, none⟩ = some (.int .i64 a0) := by rw [hW3]; go_simp
  have x1 : W3.cell? ⟨w.heap.size, 1, none⟩ = some (.int .i64 a1) := by rw [hW3]; go_simp
  have y0 : W3.cell? ⟨w.heap.size + 1, 0, none⟩ = some (.int .i64 b0) := by rw [hW3]; go_simp
  have y1 : W3.cell? ⟨w.heap.size + 1, 1, none⟩ = some (.int .i64 b1) := by rw [hW3]; go_simp
  have z0 : W3.cell? ⟨w.heap.size + 1 + 1, 0, none⟩ = some (.int .i64 d0) := by rw [hW3]; go_simp
  have z1 : W3.cell? ⟨w.heap.size + 1 + 1, 1, none⟩ = some (.int .i64 d1) := by rw [hW3]; go_simp
  clear hW3
  go_cut [62] (fun v62 wx => v62 = .bool false ∧ Aside0 (Below W3.heap.size W3 wx))
  case first =>
    replace x0 := BelowOf.cell x0
    replace x1 := BelowOf.cell x1
    replace y0 := BelowOf.cell y0
    replace y1 := BelowOf.cell y1
    replace z0 := BelowOf.cell z0
    replace z1 := BelowOf.cell z1
    cases ab with
    | true =>
      obtain rfl := K1 rfl
      have e1 := K4 (.inl rfl)
      have e2 : ((a0 == b0 && (a1 == b1)) != true) = true := by rw [e1]; rfl
      clear K1 K3 K4
      cases bd with
      | true =>
        obtain rfl := K2 rfl rfl
        clear K2
        refine wp_plain_below ?_
        repeat (go_big_quiet_step (first | (go_at_call 7; with_reducible exact quietB (pglog_Later.calls a0 a1 a0 a1 false _ Haa.out)) | (go_at_call 7; with_reducible exact quietB (pglog_Later.calls a0 a1 b0 b1 _ _ Hab.out)) | (go_at_call 7; with_reducible exact quietB (pglog_Later.calls b0 b1 a0 a1 _ _ Hba.out)) | (go_at_call 7; with_reducible exact quietB (pglog_Later.calls b0 b1 d0 d1 _ _ Hbd.out)) | (go_at_call 7; with_reducible exact quietB (pglog_Later.calls a0 a1 d0 d1 _ _ Had.out))))
        refine wpQuiet_nil ?_
        rintro _ ⟨nq, rfl⟩
        go_wp2_with fail
        go_meet
        exact ⟨rfl, ⟨nq.h⟩⟩
      | false =>
        clear K2
        refine wp_plain_below ?_
        repeat (go_big_quiet_step (first | (go_at_call 7; with_reducible exact quietB (pglog_Later.calls a0 a1 a0 a1 false _ Haa.out)) | (go_at_call 7; with_reducible exact quietB (pglog_Later.calls a0 a1 b0 b1 _ _ Hab.out)) | (go_at_call 7; with_reducible exact quietB (pglog_Later.calls b0 b1 a0 a1 _ _ Hba.out)) | (go_at_call 7; with_reducible exact quietB (pglog_Later.calls b0 b1 d0 d1 _ _ Hbd.out)) | (go_at_call 7; with_reducible exact quietB (pglog_Later.calls a0 a1 d0 d1 _ _ Had.out))))
        refine wpQuiet_nil ?_
        rintro _ ⟨nq, rfl⟩
        go_wp2_with fail
        go_meet
        exact ⟨rfl, ⟨nq.h⟩⟩
    | false =>
      cases ba with
      | true =>
        have e1 := K4 (.inr rfl)
        clear K1 K2 K3 K4
        refine wp_plain_below ?_
        repeat (go_big_quiet_step (first | (go_at_call 7; with_reducible exact quietB (pglog_Later.calls a0 a1 a0 a1 false _ Haa.out)) | (go_at_call 7; with_reducible exact quietB (pglog_Later.calls a0 a1 b0 b1 _ _ Hab.out)) | (go_at_call 7; with_reducible exact quietB (pglog_Later.calls b0 b1 a0 a1 _ _ Hba.out)) | (go_at_call 7; with_reducible exact quietB (pglog_Later.calls b0 b1 d0 d1 _ _ Hbd.out)) | (go_at_call 7; with_reducible exact quietB (pglog_Later.calls a0 a1 d0 d1 _ _ Had.out))))
        refine wpQuiet_nil ?_
        rintro _ ⟨nq, rfl⟩
        go_wp2_with fail
        go_meet
        exact ⟨rfl, ⟨nq.h⟩⟩
      | false =>
        obtain ⟨rfl, rfl⟩ := K3 rfl rfl
        clear K1 K2 K3 K4
        refine wp_plain_below ?_
        repeat (go_big_quiet_step (first | (go_at_call 7; with_reducible exact quietB (pglog_Later.calls a0 a1 a0 a1 false _ Haa.out)) | (go_at_call 7; with_reducible exact quietB (pglog_Later.calls a0 a1 b0 b1 _ _ Hab.out)) | (go_at_call 7; with_reducible exact quietB (pglog_Later.calls b0 b1 a0 a1 _ _ Hba.out)) | (go_at_call 7; with_reducible exact quietB (pglog_Later.calls b0 b1 d0 d1 _ _ Hbd.out)) | (go_at_call 7; with_reducible exact quietB (pglog_Later.calls a0 a1 d0 d1 _ _ Had.out))))
        refine wpQuiet_nil ?_
        rintro _ ⟨nq, rfl⟩
        go_wp2_with fail
        go_meet
        exact ⟨rfl, ⟨nq.h⟩⟩
  case rest =>
    obtain ⟨rfl, HB3⟩ := hcut
    clear x0 x1 y0 y1 z0 z1 K1 K2 K3 K4 Haa Hab Hba Hbd Had
    go_wp2
    obtain ⟨bl, hbl⟩ : ∃ bl, bl = wc.heap.size := ⟨_, rfl⟩
    rw [← hbl]
    obtain ⟨W4, hW4⟩ : ∃ W4, W4 = wc.alloc (.cells #[.int .i64 0, .int .i64 0] 24) := ⟨_, rfl⟩
    rw [← hW4]
    have HBL := Aside0.mk (show w.heap.size ≤ bl ∧ bl < W4.heap.size from by
      have h1 := HBW.out.size; have h2 := HB3.out.size
      rw [hW4, hbl]; simp; omega)
    have HB4 := Aside0.mk (show Below w.heap.size w W4 from by rw [hW4]; exact below_alloc (below_step HBW.out HB3.out) _)
    have HL0 := Aside0.mk (show W4.heap[bl]? = some (.cells #[.int .i64 0, .int .i64 0] 24 (0, 0)) from by rw [hW4, hbl]; exact World.alloc_heap_new wc _)
    clear hW4 hbl HB3 HBW
    go_loopw [9, 11, 65] (fun v9 v11 v65 w' => ∃ (i n : Nat) (log : List S34) (e v : Int) (Al : Option Addr) (cl : Nat), v65 = .int .i64 i ∧ v11 = .int .i64 n ∧ v9 = .slice Al log.length cl ∧ Aside0 (i ≤ l0.length ∧ n ≤ i) ∧ Aside0 (InvL log e v n) ∧ Aside0 (w'.heap[bl]? = some (.cells #[.int .i64 e, .int .i64 v] 24 (0, 0))) ∧ Aside0 (Kd.C k34 w' Al log.length log ∧ log.length ≤ cl ∧ ∀ ad, Al = some ad → 0 < log.length → bl < ad.block) ∧ Aside0 (Below w.heap.size w w')) (fun _ _ v _ => l0.length - (intOf v).toNat)
    case atStart => exact ⟨0, 0, [], 0, 0, none, 0, rfl, rfl, rfl, ⟨by omega, by omega⟩, ⟨InvL.nil⟩, HL0, ⟨Kd.C_nil _ _, by decide, fun ad e h => by cases e⟩, HB4⟩
    case round =>
      obtain ⟨i, n, log, e, v, Al, cl, rfl, rfl, rfl, HI, HINV, HL, HLC, HB⟩ := hrel
      clear HL0 HB4
      by_cases hlt : i < l0.length
      · obtain ⟨ad, e1, hx0, hx1, hx2, hx3, hx4, hx5, hx6, hx7, hx8, hx9, hx10, hx11, hx12, hx13⟩ := at_T34 (Kd.C_below HR.out HB.out) (i : Int) (by omega) (by omega)
        cases e1
        simp only [Int.toNat_natCast] at hx0 hx1 hx2 hx3 hx4 hx5 hx6 hx7 hx8 hx9 hx10 hx11 hx12 hx13
        generalize rd_T34 l0 (i : Int) = x at *
        have l0c := blk_cell HL.out 0
        have l1c := blk_cell HL.out 1
        simp at l0c l1c
        have hll : log.length ≤ 8 := by have := HINV.out.len; omega
        have hn0 : (0 : Int) ≤ (n : Int) := by omega
        have hni : n < l0.length := by have := HI.out; omega
        have hlen := HR.out.2.1
        have hblt := (Array.getElem?_eq_some_iff.1 HL.out).1
        by_cases hc : entB x = true ∧ x.f0.f1 = wrap64 (v + 1) ∧ ¬ x.f0.f0 < e
        · have HAPP := Aside0.mk ((app_eq log e v x (by omega)).trans (congrArg some (if_pos hc)))
          obtain ⟨hi1, hi2, hi3, hi4, hi5⟩ := HINV.out.step hc.1 hc.2.1 hc.2.2
          have HS1 := Aside0.mk hi1
          have HS2 := Aside0.mk hi2
          have HS3 := Aside0.mk hi3
          have HS4 := Aside0.mk hi4
          have HS5 := Aside0.mk hi5
          clear hc hi1 hi2 hi3 hi4 hi5
          generalize cutL (log ++ [x]) = nx at *
          go_wp2_with (first | (go_at_call 8; refine (pglog_Append.calls 40 Al cl log e v x.f0.f0 x.f0.f1 x.f1.f0 x.f1.f1 x.f1.f2 x.f1.f3.f0 x.f1.f3.f1 x.f1.f3.f2 x.f1.f3.f3 x.f1.f3.f4 x.f2.f0 x.f2.f1 x.f2.f2 x.f2.f3 nx x.f0.f0 x.f0.f1 true _ (Kd.C_alloc HLC.out.1 _) HLC.out.2.1 HAPP.out).mono ?_; rintro e' w1 ⟨u, rfl, hQ, hW⟩; obtain ⟨A1, c1, rfl, hc1, hC1⟩ := Kd.Q_reads hQ; have hbase := Q_baseA hQ; have HN1 := Aside0.mk (show ∀ ad, A1 = some ad → 0 < nx.length → bl < ad.block from fun ad ea _ => by have := hbase ad ea; simp at this; omega); have HC1 := Aside0.mk hC1; have HC1l := Aside0.mk hc1; have HW := Aside0.mk hW; clear hW hQ hC1 hc1 hbase))
          obtain ⟨bx, hbx⟩ : ∃ bx, bx = wr.heap.size := ⟨_, rfl⟩
          obtain ⟨ba, hba⟩ : ∃ ba, ba = w1.heap.size := ⟨_, rfl⟩
          rw [← hbx, ← hba]
          obtain ⟨W5, hW5⟩ : ∃ W5, W5 = w1.alloc (.cells #[.int .i64 x.f0.f0, .int .i64 x.f0.f1] 24) := ⟨_, rfl⟩
          rw [← hW5]
          have hX1 : (wr.alloc (.cells #[.int .i64 x.f0.f0, .int .i64 x.f0.f1, .int .i64 x.f1.f0, .int .i64 x.f1.f1, .int .i64 x.f1.f2, .int .i64 x.f1.f3.f0, .string x.f1.f3.f1, .int .i64 x.f1.f3.f2, .int .i64 x.f1.f3.f3, .string x.f1.f3.f4, .int .i64 x.f2.f0, .int .i64 x.f2.f1, .int .i64 x.f2.f2, .string x.f2.f3] 34)).heap[bx]? = some (.cells #[.int .i64 x.f0.f0, .int .i64 x.f0.f1, .int .i64 x.f1.f0, .int .i64 x.f1.f1, .int .i64 x.f1.f2, .int .i64 x.f1.f3.f0, .string x.f1.f3.f1, .int .i64 x.f1.f3.f2, .int .i64 x.f1.f3.f3, .string x.f1.f3.f4, .int .i64 x.f2.f0, .int .i64 x.f2.f1, .int .i64 x.f2.f2, .string x.f2.f3] 34 (0, 0)) := by rw [hbx]; exact World.alloc_heap_new wr _
          have hb5 : Below (wr.alloc (.cells #[.int .i64 x.f0.f0, .int .i64 x.f0.f1, .int .i64 x.f1.f0, .int .i64 x.f1.f1, .int .i64 x.f1.f2, .int .i64 x.f1.f3.f0, .string x.f1.f3.f1, .int .i64 x.f1.f3.f2, .int .i64 x.f1.f3.f3, .string x.f1.f3.f4, .int .i64 x.f2.f0, .int .i64 x.f2.f1, .int .i64 x.f2.f2, .string x.f2.f3] 34)).heap.size (wr.alloc (.cells #[.int .i64 x.f0.f0, .int .i64 x.f0.f1, .int .i64 x.f1.f0, .int .i64 x.f1.f1, .int .i64 x.f1.f2, .int .i64 x.f1.f3.f0, .string x.f1.f3.f1, .int .i64 x.f1.f3.f2, .int .i64 x.f1.f3.f3, .string x.f1.f3.f4, .int .i64 x.f2.f0, .int .i64 x.f2.f1, .int .i64 x.f2.f2, .string x.f2.f3] 34)) W5 := by rw [hW5]; exact below_alloc HW.out _
          have HX5 := Aside0.mk (show XBox W5 bx x from (hb5.block bx (Array.getElem?_eq_some_iff.1 hX1).1).trans hX1)
          have hL5 : (wr.alloc (.cells #[.int .i64 x.f0.f0, .int .i64 x.f0.f1, .int .i64 x.f1.f0, .int .i64 x.f1.f1, .int .i64 x.f1.f2, .int .i64 x.f1.f3.f0, .string x.f1.f3.f1, .int .i64 x.f1.f3.f2, .int .i64 x.f1.f3.f3, .string x.f1.f3.f4, .int .i64 x.f2.f0, .int .i64 x.f2.f1, .int .i64 x.f2.f2, .string x.f2.f3] 34)).heap[bl]? = some (.cells #[.int .i64 e, .int .i64 v] 24 (0, 0)) := (Below.heap_alloc _ _ _ hblt).trans HL.out
          have HL5 := Aside0.mk ((hb5.block bl (Array.getElem?_eq_some_iff.1 hL5).1).trans hL5)
          have HA5 := Aside0.mk (show W5.heap[ba]? = some (.cells #[.int .i64 x.f0.f0, .int .i64 x.f0.f1] 24 (0, 0)) from by rw [hW5, hba]; exact World.alloc_heap_new w1 _)
          have HC5 := Aside0.mk (show Kd.C k34 W5 A1 nx.length nx from by rw [hW5]; exact Kd.C_alloc HC1.out _)
          have HB5 := Aside0.mk (show Below w.heap.size w W5 from below_step (below_alloc HB.out _) hb5)
          clear hx0 hx1 hx2 hx3 hx4 hx5 hx6 hx7 hx8 hx9 hx10 hx11 hx12 hx13 l0c l1c hX1 hb5 hL5 hW5 hbx hba hblt
          obtain ⟨q0, q1, q2, q3, q4, q5, q6, q7, q8, q9, q10, q11, q12, q13⟩ := HX5.out.cells
          have p0 : W5.cell? ⟨bl, 0, none⟩ = some (.int .i64 e) := (blk_cell HL5.out 0).trans rfl
          have p1 : W5.cell? ⟨bl, 1, none⟩ = some (.int .i64 v) := (blk_cell HL5.out 1).trans rfl
          have r0 : W5.cell? ⟨ba, 0, none⟩ = some (.int .i64 x.f0.f0) := (blk_cell HA5.out 0).trans rfl
          have r1 : W5.cell? ⟨ba, 1, none⟩ = some (.int .i64 x.f0.f1) := (blk_cell HA5.out 1).trans rfl
          have hnl := HC5.out.2.1
          have hn8 : nx.length ≤ 8 := by have := HS2.out; omega
          have hnp : 0 < nx.length := HS4.out
          obtain ⟨adn, en, m0, m1, m2, m3, m4, m5, m6, m7, m8, m9, m10, m11, m12, m13⟩ := at_T34 HC5.out ((nx.length : Int) - 1) (by omega) (by omega)
          cases en
          rw [HS3.out, show ((nx.length : Int) - 1).toNat = nx.length - 1 from by omega] at m0 m1 m2 m3 m4 m5 m6 m7 m8 m9 m10 m11 m12 m13
          replace p0 := BelowOf.cell p0
          replace p1 := BelowOf.cell p1
          replace r0 := BelowOf.cell r0
          replace r1 := BelowOf.cell r1
          replace q0 := BelowOf.cell q0
          replace q1 := BelowOf.cell q1
          replace q2 := BelowOf.cell q2
          replace q3 := BelowOf.cell q3
          replace q4 := BelowOf.cell q4
          replace q5 := BelowOf.cell q5
          replace q6 := BelowOf.cell q6
          replace q7 := BelowOf.cell q7
          replace q8 := BelowOf.cell q8
          replace q9 := BelowOf.cell q9
          replace q10 := BelowOf.cell q10
          replace q11 := BelowOf.cell q11
          replace q12 := BelowOf.cell q12
          replace q13 := BelowOf.cell q13
          replace m0 := BelowOf.cell m0
          replace m1 := BelowOf.cell m1
          replace m2 := BelowOf.cell m2
          replace m3 := BelowOf.cell m3
          replace m4 := BelowOf.cell m4
          replace m5 := BelowOf.cell m5
          replace m6 := BelowOf.cell m6
          replace m7 := BelowOf.cell m7
          replace m8 := BelowOf.cell m8
          replace m9 := BelowOf.cell m9
          replace m10 := BelowOf.cell m10
          replace m11 := BelowOf.cell m11
          replace m12 := BelowOf.cell m12
          replace m13 := BelowOf.cell m13
          have hwi : IntKind.i64.wrap ((nx.length : Int) - 1) = (nx.length : Int) - 1 := by simp [IntKind.wrap, IntKind.signed, IntKind.bits]; omega
          have hpn : 0 ≤ (nx.length : Int) - 1 := by omega
          have hpl : (nx.length : Int) - 1 < (nx.length : Int) := by omega
          have hmn : ((nx.length : Int) != if 8 < (n : Int) + 1 then 8 else (n : Int) + 1) = false := by
            rw [bne_eq_false_iff_eq]; have := HS2.out; split <;> omega
          refine wp_region_below (by kernel_rfl) (by kernel_rfl) ?_
          repeat (go_big_quiet_step ((go_at_call 7; with_reducible exact quietB (pglog_Later.calls x.f0.f0 x.f0.f1 e v true _ HS5.out))))
          refine wpQuiet_nil ?_
          rintro _ ⟨nq, rfl⟩
          have hL6 := (nq.h.block bl (Array.getElem?_eq_some_iff.1 HL5.out).1).trans HL5.out
          have hA6 := (nq.h.block ba (Array.getElem?_eq_some_iff.1 HA5.out).1).trans HA5.out
          have HL6 := Aside0.mk hL6
          clear p0 p1 r0 r1 q0 q1 q2 q3 q4 q5 q6 q7 q8 q9 q10 q11 q12 q13 m0 m1 m2 m3 m4 m5 m6 m7 m8 m9 m10 m11 m12 m13
          have p0 : nq.v.cell? ⟨bl, 0, none⟩ = some (.int .i64 e) := (blk_cell hL6 0).trans rfl
          have p1 : nq.v.cell? ⟨bl, 1, none⟩ = some (.int .i64 v) := (blk_cell hL6 1).trans rfl
          have f0 := blk_frozen hL6 0
          have f1 := blk_frozen hL6 1
          have r0 : nq.v.cell? ⟨ba, 0, none⟩ = some (.int .i64 x.f0.f0) := (blk_cell hA6 0).trans rfl
          have r1 : nq.v.cell? ⟨ba, 1, none⟩ = some (.int .i64 x.f0.f1) := (blk_cell hA6 1).trans rfl
          clear hL6 hA6
          go_wp2
          all_goals
            refine meet ?_
            apply Exists.intro
            apply Exists.intro
            refine ⟨?_, ?_⟩
            · go_region
              all_goals exact ⟨rfl, rfl, rfl⟩
            go_wp2
            go_roundw
            case rel =>
              have hl := HL6.out
              have hb7 := below_step HB5.out nq.h
              have hbl := HBL.out
              refine ⟨i + 1, n + 1, nx, x.f0.f0, x.f0.f1, some adn, c1, by go_num, by go_num, rfl, ⟨by have := HI.out; omega, by have := HI.out; omega⟩, HS1, ⟨?_⟩, ⟨?_, HC1l.out, HN1.out⟩, ⟨?_⟩⟩
              · exact hset (hset hl 0 _) 1 _
              · have hne : ∀ ad', some adn = some ad' → 0 < nx.length → ad'.block ≠ bl := fun ad' e' h' => by have := HN1.out ad' e' h'; omega
                exact Kd.C_drew (C_far k34_still (C_far k34_still (Kd.C_below HC5.out nq.h) ⟨bl, 0, none⟩ _ hne) ⟨bl, 1, none⟩ _ hne)
              · exact ((hb7.setCell (by show _ ≤ bl; omega) _).setCell (by show _ ≤ bl; omega) _).drew
            case measure => simp [intOf]; omega
        · have HAPP := Aside0.mk ((app_eq log e v x (by omega)).trans (congrArg some (if_neg hc)))
          clear hc
          go_wp2_with (first | (go_at_call 8; refine (pglog_Append.calls 40 Al cl log e v x.f0.f0 x.f0.f1 x.f1.f0 x.f1.f1 x.f1.f2 x.f1.f3.f0 x.f1.f3.f1 x.f1.f3.f2 x.f1.f3.f3 x.f1.f3.f4 x.f2.f0 x.f2.f1 x.f2.f2 x.f2.f3 log e v false _ (Kd.C_alloc HLC.out.1 _) HLC.out.2.1 HAPP.out).mono ?_; rintro e' w1 ⟨u, rfl, hQ, hW⟩; obtain ⟨A1, c1, rfl, hc1, hC1⟩ := Kd.Q_reads hQ; have HW := Aside0.mk hW; clear hW hQ hC1 hc1))
          clear hx0 hx1 hx2 hx3 hx4 hx5 hx6 hx7 hx8 hx9 hx10 hx11 hx12 hx13
          go_roundw
          case rel => 
            have h1 := below_alloc HW.out (.cells #[.int .i64 e, .int .i64 v] 24)
            have hb := below_step (below_alloc HB.out (.cells #[.int .i64 x.f0.f0, .int .i64 x.f0.f1, .int .i64 x.f1.f0, .int .i64 x.f1.f1, .int .i64 x.f1.f2, .int .i64 x.f1.f3.f0, .string x.f1.f3.f1, .int .i64 x.f1.f3.f2, .int .i64 x.f1.f3.f3, .string x.f1.f3.f4, .int .i64 x.f2.f0, .int .i64 x.f2.f1, .int .i64 x.f2.f2, .string x.f2.f3] 34)) h1
            refine ⟨i + 1, n, log, e, v, Al, cl, by go_num, rfl, rfl, ⟨by have := HI.out; omega, by have := HI.out; omega⟩, HINV, ⟨?_⟩, ⟨Kd.C_below (Kd.C_alloc HLC.out.1 _) h1, HLC.out.2⟩, ⟨hb⟩⟩
            exact (h1.block bl (by simp; have := (Array.getElem?_eq_some_iff.1 HL.out).1; omega)).trans ((Below.heap_alloc _ _ _ (Array.getElem?_eq_some_iff.1 HL.out).1).trans HL.out)
          case measure => simp [intOf]; omega
      · have HE := Aside0.mk (show i = l0.length from by have := HI.out; omega)
        have HLOG := Aside0.mk (show pglog_Log.f log e v = some true from by unfold pglog_Log.f; rw [if_pos (entF_all log), HINV.out.ok])
        have l0c : wr.cell? ⟨bl, 0, none⟩ = some (.int .i64 e) := (blk_cell HL.out 0).trans rfl
        have l1c : wr.cell? ⟨bl, 1, none⟩ = some (.int .i64 v) := (blk_cell HL.out 1).trans rfl
        go_wp2_with (first
          | (go_at_call 9; refine (pglog_Log.calls Al cl log e v true _ HLC.out.1 HLC.out.2.1 HLOG.out).mono ?_; rintro e' w1 ⟨rfl, hW⟩; have HW := Aside0.mk hW; clear hW l0c l1c)
          | (go_at_call 10; refine (reeflaw21_awake.calls true _ rfl).mono ?_; rintro e' w2 ⟨rfl, hW2⟩; have HW2 := Aside0.mk hW2; clear hW2))
        go_ret
        exact ⟨rfl, below_step (below_step HB.out HW.out) HW2.out⟩
end Go.Proofs.Ytbdciklcckjknaa.P
