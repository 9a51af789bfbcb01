/- PROVED: the law reeflaw21.PglogTells answers true at every input, and what it is handed reads behind the call as it read before. Conditions: none beyond those of the given row. -/
import Derived.Test.YtbdciklcckjknaaRows
import Derived.Test.YtbdciklcckjknaaZT01
import Derived.Test.YtbdciklcckjknaaZT21
import Derived.WalkKit
import Derived.ProofKit
import Derived.OpenShut
import Derived.ShutString
import Derived.ChangeOld
import Derived.Below
import Derived.SizedLaws
namespace Go.Proofs.Ytbdciklcckjknaa.pglogTells
open Go.ChangeShapes Go.WideShapes Go.ChangeAt Go.RowKit Go.Proofs.YtbdciklcckjknaaW.PrintWords Go.Proofs.YtbdciklcckjknaaW.HO
set_option linter.unusedVariables false
theorem own : ownKnob Try.prog.godebug = none := by kernel_rfl
theorem laidOut : laidOutB Try.prog = true := by kernel_rfl
set_option maxHeartbeats 1000000 in
set_option maxRecDepth 100000 in
theorem lifted (os : Os) (started : os.Started) (H : Type) (enc : TypeId × Value → H) :
    ReturnsInHanded {} Try.checked os 6 .any (Rows.pglogTellsSpec.pre6 enc Try.prog Try.f6 Rows.pglogTellsRow.domain false) (Rows.pglogTellsSpec.post enc Try.prog Try.f6 false true false false) := by
  refine returnsInHanded_of_change_sized (C := Try.checked) own started (by kernel_rfl) Try.func6
    (ChangeSpec.witness6 (enc := enc) (C := Try.checked) false ⟨#[], #[.agg #[.int .i64 0, .int .i64 0, .int .i64 0, .int .i64 0, .int .i64 0, .int .i64 0, .string ByteArray.empty, .int .i64 0, .int .i64 0, .string ByteArray.empty, .int .i64 0, .int .i64 0, .int .i64 0, .string ByteArray.empty], .agg #[.int .i64 0, .int .i64 0, .int .i64 0, .int .i64 0, .int .i64 0, .slice none 0 0, .slice none 0 0, .slice none 0 0], .agg #[.int .i64 0, .int .i64 0, .int .i64 0, .int .i64 0, .int .i64 0, .slice none 0 0, .slice none 0 0, .slice none 0 0], .agg #[.int .i64 0, .int .i64 0]], []⟩ 12 (by kernel_rfl) (by kernel_rfl) (by kernel_rfl) (by kernel_rfl)) ?_
  intro W base args ds gs before hval0 hW hcnd hsz0 _
  have hsz : (DataW.weightsEach Try.prog (Try.f6.params.toList ++ Rows.pglogTellsSpec.plain.varTypes Try.prog) (ds ++ gs)).all (· ≤ reachBytes) = true := hsz0
  have hval : ∀ (j : Nat) t v, Try.f6.params[j]? = some t → args[j]? = some v → Value.okWide Try.prog W .any base t v := hval0
  have hW' := hW
  obtain ⟨p, q, hA0, hV, rfl, hfz, hnd⟩ := hW
  have hA : DataW.TrodAll enc Try.prog W 0 (fun _ => true) true Try.f6.params.toList args.toList ds p := hA0
  rw [Try.params6] at hA hval hsz
  obtain ⟨v0, vs0, d0, ds0, p0, q0, hargs, rfl, rfl, h0, r0⟩ := trodAll_cons hA
  obtain ⟨v1, vs1, d1, ds1, p1, q1, rfl, rfl, rfl, h1, r1⟩ := trodAll_cons r0
  obtain ⟨v2, vs2, d2, ds2, p2, q2, rfl, rfl, rfl, h2, r2⟩ := trodAll_cons r1
  obtain ⟨v3, vs3, d3, ds3, p3, q3, rfl, rfl, rfl, h3, r3⟩ := trodAll_cons r2
  obtain ⟨rfl, rfl, rfl⟩ := trodAll_nil r3
  obtain rfl : args = #[v0, v1, v2, v3] := by cases args; simp_all
  obtain ⟨rfl, rfl⟩ := trodVars_none hV
  have lt0 : ∀ x ∈ p0, x.block < W.heap.size := by obtain ⟨m, hm⟩ := h0; exact DataW.trod_lt m _ _ _ hm
  obtain ⟨x0, k0, b0⟩ := Opn.arg (enc := enc) (P := Try.prog) (W := W) P.opT34 hsz (j := 0) rfl rfl h0
  obtain ⟨cs0, rfl, sz0⟩ := okWide_struct Try.underlying34 (hval 0 34 v0 rfl rfl)
  have hcs0 : (Value.agg cs0).cells.toList = cs0.toList := rfl
  rw [hcs0] at k0
  obtain ⟨l0⟩ := cs0
  replace k0 : P.k34.K W x0 l0 := k0
  obtain rfl := P.k34_open k0
  have lt1 : ∀ x ∈ p1, x.block < W.heap.size := by obtain ⟨m, hm⟩ := h1; exact DataW.trod_lt m _ _ _ hm
  obtain ⟨x1, k1, b1⟩ := Opn.arg (enc := enc) (P := Try.prog) (W := W) P.opT55 hsz (j := 1) rfl rfl h1
  obtain ⟨cs1, rfl, sz1⟩ := okWide_struct Try.underlying55 (hval 1 55 v1 rfl rfl)
  have hcs1 : (Value.agg cs1).cells.toList = cs1.toList := rfl
  rw [hcs1] at k1
  obtain ⟨l1⟩ := cs1
  replace k1 : P.k55.K W x1 l1 := k1
  obtain ⟨_, _, rfl, K1_0, R1_0⟩ := k1
  obtain rfl := P.k51_open K1_0
  obtain ⟨_, _, rfl, K1_1, R1_1⟩ := R1_0
  obtain rfl := K1_1
  obtain ⟨_, _, rfl, K1_2, R1_2⟩ := R1_1
  obtain rfl := P.k24_open K1_2
  obtain ⟨_, _, rfl, K1_3, R1_3⟩ := R1_2
  obtain ⟨A1_3, c1_3, rfl, hl1_3, hC1_3⟩ := K1_3
  obtain ⟨_, _, rfl, K1_4, R1_4⟩ := R1_3
  obtain ⟨A1_4, c1_4, rfl, hl1_4, hC1_4⟩ := K1_4
  obtain ⟨A1_5, c1_5, rfl, hl1_5, hC1_5⟩ := R1_4
  have lt2 : ∀ x ∈ p2, x.block < W.heap.size := by obtain ⟨m, hm⟩ := h2; exact DataW.trod_lt m _ _ _ hm
  obtain ⟨x2, k2, b2⟩ := Opn.arg (enc := enc) (P := Try.prog) (W := W) P.opT55 hsz (j := 2) rfl rfl h2
  obtain ⟨cs2, rfl, sz2⟩ := okWide_struct Try.underlying55 (hval 2 55 v2 rfl rfl)
  have hcs2 : (Value.agg cs2).cells.toList = cs2.toList := rfl
  rw [hcs2] at k2
  obtain ⟨l2⟩ := cs2
  replace k2 : P.k55.K W x2 l2 := k2
  obtain ⟨_, _, rfl, K2_0, R2_0⟩ := k2
  obtain rfl := P.k51_open K2_0
  obtain ⟨_, _, rfl, K2_1, R2_1⟩ := R2_0
  obtain rfl := K2_1
  obtain ⟨_, _, rfl, K2_2, R2_2⟩ := R2_1
  obtain rfl := P.k24_open K2_2
  obtain ⟨_, _, rfl, K2_3, R2_3⟩ := R2_2
  obtain ⟨A2_3, c2_3, rfl, hl2_3, hC2_3⟩ := K2_3
  obtain ⟨_, _, rfl, K2_4, R2_4⟩ := R2_3
  obtain ⟨A2_4, c2_4, rfl, hl2_4, hC2_4⟩ := K2_4
  obtain ⟨A2_5, c2_5, rfl, hl2_5, hC2_5⟩ := R2_4
  have lt3 : ∀ x ∈ p3, x.block < W.heap.size := by obtain ⟨m, hm⟩ := h3; exact DataW.trod_lt m _ _ _ hm
  obtain ⟨x3, k3, b3⟩ := Opn.arg (enc := enc) (P := Try.prog) (W := W) P.opT24 hsz (j := 3) rfl rfl h3
  obtain ⟨cs3, rfl, sz3⟩ := okWide_struct Try.underlying24 (hval 3 24 v3 rfl rfl)
  have hcs3 : (Value.agg cs3).cells.toList = cs3.toList := rfl
  rw [hcs3] at k3
  obtain ⟨l3⟩ := cs3
  replace k3 : P.k24.K W x3 l3 := k3
  obtain rfl := P.k24_open k3
  clear hA0 hval0 hsz0 hsz
  have hfx : P.fitE x0 := b0.2.1.2.2.2.2.1
  have hfl : ∀ z ∈ x1.f3, P.fitE z := fun z hz => (b1.2.2.2.1.2 z hz).2.1.2.2.2.2.1
  have hfo : ∀ z ∈ x1.f5, z.f0.size ≤ 140737488351232 := fun z hz => (b1.2.2.2.2.2.2 z hz).1
  have hm1 : x1.f3.length ≤ 1099511627776 * 128 := by have := b1.2.2.2.1.1; omega
  have hm2 : x1.f4.length ≤ 1099511627776 * 128 := by have := b1.2.2.2.2.1.1; omega
  have hm3 : x1.f5.length ≤ 1099511627776 * 128 := by have := b1.2.2.2.2.2.1; omega
  refine (P.reeflaw21_PglogTells.calls x0 x1.f0.f0 x1.f0.f1 x1.f1 x1.f2.f0 x1.f2.f1 A1_3 A1_4 A1_5 c1_3 c1_4 c1_5 x1.f3 x1.f4 x1.f5 x2.f0.f0 x2.f0.f1 x2.f1 x2.f2.f0 x2.f2.f1 A2_3 A2_4 A2_5 c2_3 c2_4 c2_5 x2.f3 x2.f4 x2.f5 x3.f0 x3.f1 W hC1_3 hl1_3 hC1_4 hl1_4 hC1_5 hl1_5 hC2_3 hl2_3 hC2_4 hl2_4 hC2_5 hl2_5 hfx hfl hfo hm1 hm2 hm3).mono fun e W' ⟨he, bel⟩ => ?_
  subst he
  exact ⟨_, rfl, _, _, _, [], _, [], hW', trodAll_mk1 (shut_bool Try.underlying4 _), (trodAll_cons_mk (Below.trod laidOut (by kernel_rfl) (of_decide_eq_true (by kernel_rfl)) h0 bel lt0) (trodAll_cons_mk (Below.trod laidOut (by kernel_rfl) (of_decide_eq_true (by kernel_rfl)) h1 bel lt1) (trodAll_cons_mk (Below.trod laidOut (by kernel_rfl) (of_decide_eq_true (by kernel_rfl)) h2 bel lt2) (trodAll_cons_mk (Below.trod laidOut (by kernel_rfl) (of_decide_eq_true (by kernel_rfl)) h3 bel lt3) trodAll_mk0)))), rfl, bel.frame _, fun h => by cases h⟩
theorem over : Rows.pglogTellsRow.holds Try.pinned (OpenSpec.ofChange Rows.pglogTellsSpec) :=
  OpenClaim.holds_of_wide 6 Try.f6 rfl rfl rfl rfl rfl rfl rfl ⟨rfl, rfl, rfl, rfl, rfl⟩ rfl rfl rfl rfl rfl (by kernel_rfl) Try.func6 (by kernel_rfl)
    (of_decide_eq_true (by kernel_rfl)) (by unfold Func.isWrapper; first | (rw [if_pos (by decide +kernel)]; kernel_rfl) | (rw [if_neg (by decide +kernel)]; exact ⟨rfl, rfl⟩))
    (fun os started H enc _ => lifted os started H enc)
theorem proved : Rows.PglogTellsSaid := over
#print axioms proved
end Go.Proofs.Ytbdciklcckjknaa.pglogTells
namespace Go.Proofs.Ytbdciklcckjknaa
/-- The row, under a short name, for the claim. -/
theorem pglogTells_holds : Rows.PglogTellsSaid := pglogTells.proved
end Go.Proofs.Ytbdciklcckjknaa
