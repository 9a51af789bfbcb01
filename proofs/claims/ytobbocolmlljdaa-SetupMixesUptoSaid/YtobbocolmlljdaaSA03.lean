/- Texts of this claim, merged by pack.py: S7 PEq1 PEq2 PEq3 PEq4 PEq5 -/
import Derived.Test.YtobbocolmlljdaaSA02
import Derived.Test.YtobbocolmlljdaaSA01
namespace Go.Proofs.Ytobbocolmlljdaa.P
open Go.RowKit Go.Proofs.YtobbocolmlljdaaW.PrintWords Go.Proofs.YtobbocolmlljdaaW.PrintLast Go.Proofs.YtobbocolmlljdaaW.PrintMore Go.Proofs.YtobbocolmlljdaaW.HB
set_option linter.unusedVariables false
set_option linter.unusedSimpArgs false
theorem with_mix (x : Int) (pa pb po : Value) (W : World) (z : Nat) (hz : W.heap.size = z) (R : World → Prop)
    (h : Calls Try.prog 17 #[.pointer (some ⟨z + 1, 0, none⟩), pa, pb, po] ((W.alloc (.cells #[.int .u64 x] 23)).alloc (.cells #[.func (.func 43) #[] #[.pointer (some ⟨z, 0, none⟩)]] 82)) fun e W' => (∃ u, e = .returned u) ∧ R W') :
    Calls Try.prog 16 #[.int .u64 x, .func (.func 17) #[] #[pa, pb, po]] W fun e W' => (∃ u, e = .returned u) ∧ R W' := by
  subst hz
  have H := Aside0.mk h
  clear h
  go_enter Try.func16, Try.ntmps16
  go_wp2_with (first
    | (go_at_call 17; refine H.out.mono ?_; rintro e w1 ⟨⟨u, rfl⟩, hq⟩; have Q1 := Aside0.mk hq; clear hq))
  go_end0
  exact ⟨⟨_, rfl⟩, Q1.out⟩
theorem boxed_new (w : World) (v : Value) (t : TypeId) : Boxed (w.alloc (.cells #[v] t)) w.heap.size t v := World.alloc_heap_new w _
theorem mix_start (w : World) (A B : Option Addr) (ca cb : Nat) (ra rb : List (List Value)) (seed : Int) (hr0 : Kd.C kRaw w A ra.length ra) (hc0 : ra.length ≤ ca) (hr1 : Kd.C kRaw w B rb.length rb) (hc1 : rb.length ≤ cb) :
    MX w (((((w.alloc (.cells #[.slice A ra.length ca] 22)).alloc (.cells #[.slice B rb.length cb] 22)).alloc (.cells #[.slice none 0 0] 22)).alloc (.cells #[.int .u64 seed] 23)).alloc (.cells #[.func (.func 43) #[] #[.pointer (some ⟨w.heap.size + 1 + 1 + 1, 0, none⟩)]] 82))
      w.heap.size (w.heap.size + 1) (w.heap.size + 1 + 1) (w.heap.size + 1 + 1 + 1 + 1) (w.heap.size + 1 + 1 + 1) A B ca cb (.slice none 0 0) ra rb [] seed := by
  have b1 := boxed_new w (.slice A ra.length ca) 22
  have b2 := boxed_new (w.alloc (.cells #[.slice A ra.length ca] 22)) (.slice B rb.length cb) 22
  have b3 := boxed_new ((w.alloc (.cells #[.slice A ra.length ca] 22)).alloc (.cells #[.slice B rb.length cb] 22)) (.slice none 0 0) 22
  have b4 := boxed_new (((w.alloc (.cells #[.slice A ra.length ca] 22)).alloc (.cells #[.slice B rb.length cb] 22)).alloc (.cells #[.slice none 0 0] 22)) (.int .u64 seed) 23
  have b5 := boxed_new ((((w.alloc (.cells #[.slice A ra.length ca] 22)).alloc (.cells #[.slice B rb.length cb] 22)).alloc (.cells #[.slice none 0 0] 22)).alloc (.cells #[.int .u64 seed] 23)) (.func (.func 43) #[] #[.pointer (some ⟨w.heap.size + 1 + 1 + 1, 0, none⟩)]) 82
  simp only [World.size_alloc] at b2 b3 b4 b5
  exact ⟨boxed_step (boxed_step (boxed_step (boxed_step b1 (below_alloc (Below.refl _ _) _)) (below_alloc (Below.refl _ _) _)) (below_alloc (Below.refl _ _) _)) (below_alloc (Below.refl _ _) _),
    boxed_step (boxed_step (boxed_step b2 (below_alloc (Below.refl _ _) _)) (below_alloc (Below.refl _ _) _)) (below_alloc (Below.refl _ _) _),
    boxed_step (boxed_step b3 (below_alloc (Below.refl _ _) _)) (below_alloc (Below.refl _ _) _), hc0, hc1, hr0, hr1, Kd.R_nil _ _ _ _ _,
    boxed_step b4 (below_alloc (Below.refl _ _) _), b5, below_alloc (below_alloc (below_alloc (below_alloc (below_alloc (Below.refl _ _) _) _) _) _) _⟩
set_option maxRecDepth 100000 in
set_option maxHeartbeats 4000000 in
theorem mix.calls (A0 : Option Addr) (c0 : Nat) (ra : List (List Value)) (A1 : Option Addr) (c1 : Nat) (rb : List (List Value)) (seed : Int) (w : World) (hr0 : Kd.C kRaw w A0 ra.length ra) (hc0 : ra.length ≤ c0) (hr1 : Kd.C kRaw w A1 rb.length rb) (hc1 : rb.length ≤ c1) (hl : ra.length + rb.length ≤ 4000000) :
    Calls Try.prog 5 #[.slice A0 ra.length c0, .slice A1 rb.length c1, .int .u64 seed] w fun e w' => ∃ v, e = .returned v ∧ Kd.R kRaw 41 w' w.heap.size (fun _ => True) v (mixS ra rb seed) ∧ Below w.heap.size w w' := by
  have HS := Aside0.mk (mix_start w A0 A1 c0 c1 ra rb seed hr0 hc0 hr1 hc1)
  have HA : Apart5 w.heap.size w.heap.size (w.heap.size + 1) (w.heap.size + 1 + 1) (w.heap.size + 1 + 1 + 1 + 1) (w.heap.size + 1 + 1 + 1) := by constructor <;> omega
  replace HA := Aside0.mk HA
  have HL := Aside0.mk hl
  clear hr0 hc0 hr1 hc1 hl
  have HW := with_mix seed (.pointer (some ⟨w.heap.size, 0, none⟩)) (.pointer (some ⟨w.heap.size + 1, 0, none⟩)) (.pointer (some ⟨w.heap.size + 1 + 1, 0, none⟩)) (((w.alloc (.cells #[.slice A0 ra.length c0] 22)).alloc (.cells #[.slice A1 rb.length c1] 22)).alloc (.cells #[.slice none 0 0] 22)) (w.heap.size + 1 + 1 + 1) (by simp) (fun W' => ∃ A' B' ca' cb' v' a' b' out' s', MX w W' w.heap.size (w.heap.size + 1) (w.heap.size + 1 + 1) (w.heap.size + 1 + 1 + 1 + 1) (w.heap.size + 1 + 1 + 1) A' B' ca' cb' v' a' b' out' s' ∧ (a' = [] ∨ b' = []) ∧ out' ++ (a' ++ b') = [] ++ mixS ra rb seed ∧ out'.length + a'.length + b'.length = ([] : List (List Value)).length + ra.length + rb.length)
    (mix_1.calls w w.heap.size (w.heap.size + 1) (w.heap.size + 1 + 1) (w.heap.size + 1 + 1 + 1 + 1) (w.heap.size + 1 + 1 + 1) A0 A1 c0 c1 (.slice none 0 0) ra rb [] seed _ HA.out HS.out (by have := HL.out; simpa using this))
  replace HW := Aside0.mk HW
  clear HS
  go_enter Try.func5, Try.ntmps5
  go_upto_region 3 with (first
    | (go_at_call 16; refine HW.out.mono ?_; rintro e w1 ⟨⟨u, rfl⟩, A', B', ca', cb', v', a', b', out', s', hm, hab, hout, hlen⟩; have M1 := Aside0.mk hm; have HAB := Aside0.mk hab; have HOUT := Aside0.mk hout; have HLEN := Aside0.mk hlen; clear hm hab hout hlen))
  clear HW
  have hqa := M1.out.qa.cell
  have hqb := M1.out.qb.cell
  have hqo := M1.out.qo.cell
  have HL1 := Aside0.mk (show (out'.length + a'.length) * 320 ≤ 140737488355328 from by have := HLEN.out; have := HL.out; simp at *; omega)
  have HL2 := Aside0.mk (show ((out' ++ a').length + b'.length) * 320 ≤ 140737488355328 from by have := HLEN.out; have := HL.out; simp at *; omega)
  refine wp_region_C [5] (fun b W => W.cell? ⟨w.heap.size, 0, none⟩ = some (.slice A' a'.length ca') ∧ W.cell? ⟨w.heap.size + 1, 0, none⟩ = some (.slice B' b'.length cb') ∧ W.cell? ⟨w.heap.size + 1 + 1, 0, none⟩ = some v') (by rfl) ?_ ?_
  · intro b hb
    exact ⟨hqa, hqb, hqo⟩
  intro hU
  refine wpAnyC_take (i := 0) (b := 5) (D := [2, 4, 5]) (v := v') rfl (by kernel_rfl) (by kernel_rfl) (by kernel_rfl) (by kernel_rfl) (by simp) (by simp) (by simp) (by kernel_rfl) (fun _ _ _ h => h) (Or.inl ⟨by rfl, fun W hW => by obtain ⟨h1, h2, h3⟩ := hW; go_simp⟩) hU (fun hU => ?_)
  try simp only [Act.put, List.setIfInBounds_toArray, List.set_cons_zero, List.set_cons_succ]
  refine wpAnyC_take (i := 1) (b := 5) (D := [2, 4, 5]) (v := .slice A' a'.length ca') rfl (by kernel_rfl) (by kernel_rfl) (by kernel_rfl) (by kernel_rfl) (by simp) (by simp) (by simp) (by kernel_rfl) (fun _ _ _ h => h) (Or.inl ⟨by rfl, fun W hW => by obtain ⟨h1, h2, h3⟩ := hW; go_simp⟩) hU (fun hU => ?_)
  try simp only [Act.put, List.setIfInBounds_toArray, List.set_cons_zero, List.set_cons_succ]
  refine wpAnyC_take (i := 3) (b := 5) (D := [4, 5]) (v := .slice B' b'.length cb') rfl (by kernel_rfl) (by kernel_rfl) (by kernel_rfl) (by kernel_rfl) (by simp) (by simp) (by simp) (by kernel_rfl) (fun _ _ _ h => h) (Or.inl ⟨by rfl, fun W hW => by obtain ⟨h1, h2, h3⟩ := hW; go_simp⟩) hU (fun hU => ?_)
  try simp only [Act.put, List.setIfInBounds_toArray, List.set_cons_zero, List.set_cons_succ]
  have M2 := Aside0.mk M1.out.drew
  refine wpAnyC_one (i := 2) (by kernel_rfl) rfl (fun K hK => ?_)
  refine Kd.R_append_rows_step kRaw (w0 := w) w.heap.size (by rfl) (.tmp 11) (.tmp 12) 22 41 (.agg #[(.int .i64 0), (.int .i64 0), (.int .i64 0), (.int .i64 0), (.int .i64 0), (.int .i64 0), (.int .u64 0), (.int .i64 0), (.int .i64 0), (.int .i64 0), (.int .i64 0), (.int .i64 0), (.int .i64 0), (.int .i64 0), (.int .i64 0), (.int .i64 0), (.int .i64 0), (.string ⟨#[]⟩), (.int .i64 0), (.int .i64 0), (.string ⟨#[]⟩), (.string ⟨#[]⟩), (.int .i64 0), (.int .i64 0), (.int .i64 0), (.string ⟨#[]⟩), (.bool false), (.int .i64 0), (.slice none 0 0), (.string ⟨#[]⟩), (.int .i64 0), (.int .i64 0), (.int .i64 0)]) 320 rfl Try.underlying22 info41 rfl (by decide) (by omega) (v') out' a' _ _ _ (fun _ => True) (fun _ => False) (by rfl) (by rfl) M2.out.r (Kd.C_below M2.out.ra M2.out.below) (fun _ _ h => h) (fun _ h => h.elim) (fun _ _ => trivial) M2.out.below M2.out.below.size (by exact HL1.out) ?_
  intro x2 x2w hr2 hb2 hg2 hat2
  have B4 : Boxed x2w w.heap.size 22 (.slice A' a'.length ca') ∧ Boxed x2w (w.heap.size + 1) 22 (.slice B' b'.length cb') ∧ Boxed x2w (w.heap.size + 1 + 1) 22 v' := ⟨M2.out.qa.kept hg2 M2.out.not_row.1, M2.out.qb.kept hg2 M2.out.not_row.2.1, M2.out.qo.kept hg2 M2.out.not_row.2.2.1⟩
  replace B4 := Aside0.mk B4
  refine hK _ _ ?_ (fun hU => ?_)
  · intro c hc hL
    exact ⟨B4.out.1.cell, B4.out.2.1.cell, B4.out.2.2.cell⟩
  clear hK K
  try simp only [Act.put, List.setIfInBounds_toArray, List.set_cons_zero, List.set_cons_succ]
  refine wpAnyC_one (i := 4) (by kernel_rfl) rfl (fun K hK => ?_)
  refine Kd.R_append_rows_step kRaw (w0 := w) w.heap.size (by rfl) (.tmp 13) (.tmp 14) 22 41 (.agg #[(.int .i64 0), (.int .i64 0), (.int .i64 0), (.int .i64 0), (.int .i64 0), (.int .i64 0), (.int .u64 0), (.int .i64 0), (.int .i64 0), (.int .i64 0), (.int .i64 0), (.int .i64 0), (.int .i64 0), (.int .i64 0), (.int .i64 0), (.int .i64 0), (.int .i64 0), (.string ⟨#[]⟩), (.int .i64 0), (.int .i64 0), (.string ⟨#[]⟩), (.string ⟨#[]⟩), (.int .i64 0), (.int .i64 0), (.int .i64 0), (.string ⟨#[]⟩), (.bool false), (.int .i64 0), (.slice none 0 0), (.string ⟨#[]⟩), (.int .i64 0), (.int .i64 0), (.int .i64 0)]) 320 rfl Try.underlying22 info41 rfl (by decide) (by omega) (x2) (out' ++ a') b' _ _ _ (fun _ => True) (fun _ => False) (by rfl) (by rfl) hr2 (Kd.C_below M2.out.rb hb2) (fun _ _ h => h) (fun _ h => h.elim) (fun _ _ => trivial) hb2 hb2.size (by exact HL2.out) ?_
  intro x4 x4w hr4 hb4 hg4 hat4
  refine hK _ _ ?_ (fun hU => ?_)
  · intro c hc hL
    exact ⟨(B4.out.1.kept hg4 (Kd.R_ne hr2 B4.out.1 (by decide))).cell, (B4.out.2.1.kept hg4 (Kd.R_ne hr2 B4.out.2.1 (by decide))).cell, (B4.out.2.2.kept hg4 (Kd.R_ne hr2 B4.out.2.2 (by decide))).cell⟩
  clear hK K
  refine wpAnyC_one (i := 5) (by kernel_rfl) rfl (fun K hK => ?_)
  go_simp
  refine hK _ _ ?_ (fun hU => ?_)
  · intro c hc hL
    exfalso
    have : c = 5 := by simpa using hc
    subst this
    exact absurd hL (by simp)
  clear hK K
  try simp only [Act.put, List.setIfInBounds_toArray, List.set_cons_zero, List.set_cons_succ]
  refine wpAnyC_done (by kernel_rfl) ?_ _
  have R4 := Aside0.mk hr4
  have B5 := Aside0.mk hb4
  clear hr2 hb2 hg2 hat2 hr4 hb4 hg4 hat4
  go_wp2
  go_ret
  refine ⟨_, rfl, ?_, B5.out⟩
  have hm := HOUT.out
  rw [List.nil_append] at hm
  rw [← hm, ← List.append_assoc]
  exact R4.out
end Go.Proofs.Ytobbocolmlljdaa.P
namespace Go.Proofs.Ytobbocolmlljdaa.P
open Go.RowKit Go.Proofs.YtobbocolmlljdaaW.PrintWords Go.Proofs.YtobbocolmlljdaaW.PrintLast Go.Proofs.YtobbocolmlljdaaW.PrintMore
attribute [local go_sem] max2_int min2_int max_two min_two max_three min_three max_four min_four
set_option linter.unusedVariables false
set_option linter.unusedSimpArgs false
theorem eqA27 (d : Nat) (w : World) (x0 y0 : Int) (x1 y1 : Int) :
    (Op.equalIn (d + 2) 27 (.agg #[.int .i64 x0, .int .i64 x1]) (.agg #[.int .i64 y0, .int .i64 y1])).run Try.prog w = .ok (x0 == y0 && (x1 == y1)) w := by
  refine eqA_of Try.underlying27 (by kernel_rfl) ?_
  refine eqf_cons (by rfl) (by go_simp; rfl) (by go_simp; rfl) (by go_simp) ?_
  exact eqf_last (by rfl) (by go_simp; rfl) (by go_simp; rfl) (by go_simp)
end Go.Proofs.Ytobbocolmlljdaa.P
namespace Go.Proofs.Ytobbocolmlljdaa.P
open Go.RowKit Go.Proofs.YtobbocolmlljdaaW.PrintWords Go.Proofs.YtobbocolmlljdaaW.PrintLast Go.Proofs.YtobbocolmlljdaaW.PrintMore
attribute [local go_sem] max2_int min2_int max_two min_two max_three min_three max_four min_four
set_option linter.unusedVariables false
set_option linter.unusedSimpArgs false
theorem eqA29 (d : Nat) (w : World) (x0 y0 : Int) (x1 y1 : Int) (x2 y2 : Int) (x3 y3 : Int) :
    (Op.equalIn (d + 2) 29 (.agg #[.int .i64 x0, .int .i64 x1, .int .i64 x2, .int .i64 x3]) (.agg #[.int .i64 y0, .int .i64 y1, .int .i64 y2, .int .i64 y3])).run Try.prog w = .ok (x0 == y0 && (x1 == y1 && (x2 == y2 && (x3 == y3)))) w := by
  refine eqA_of Try.underlying29 (by kernel_rfl) ?_
  refine eqf_cons (by rfl) (by go_simp; rfl) (by go_simp; rfl) (by go_simp) ?_
  refine eqf_cons (by rfl) (by go_simp; rfl) (by go_simp; rfl) (by go_simp) ?_
  refine eqf_cons (by rfl) (by go_simp; rfl) (by go_simp; rfl) (by go_simp) ?_
  exact eqf_last (by rfl) (by go_simp; rfl) (by go_simp; rfl) (by go_simp)
theorem eqA31 (d : Nat) (w : World) (x0 y0 : Int) (x1 y1 : Int) (x2 y2 : Int) (x3 y3 : Int) (x4 y4 : Int) (x5 y5 : Int) (x6 y6 : Int) (x7 y7 : Int) :
    (Op.equalIn (d + 3) 31 (.agg #[.int .i64 x0, .int .i64 x1, .int .i64 x2, .int .i64 x3, .int .i64 x4, .int .i64 x5, .int .i64 x6, .int .i64 x7]) (.agg #[.int .i64 y0, .int .i64 y1, .int .i64 y2, .int .i64 y3, .int .i64 y4, .int .i64 y5, .int .i64 y6, .int .i64 y7])).run Try.prog w = .ok (x0 == y0 && (x1 == y1 && (x2 == y2 && (x3 == y3 && ((x4 == y4 && (x5 == y5 && (x6 == y6 && (x7 == y7))))))))) w := by
  refine eqA_of Try.underlying31 (by kernel_rfl) ?_
  refine eqf_cons (by rfl) (by go_simp; rfl) (by go_simp; rfl) (by go_simp) ?_
  refine eqf_cons (by rfl) (by go_simp; rfl) (by go_simp; rfl) (by go_simp) ?_
  refine eqf_cons (by rfl) (by go_simp; rfl) (by go_simp; rfl) (by go_simp) ?_
  refine eqf_cons (by rfl) (by go_simp; rfl) (by go_simp; rfl) (by go_simp) ?_
  exact eqf_last (by rfl) (by go_simp) (by go_simp) (eqA29 (d + 0) w _ _ _ _ _ _ _ _)
end Go.Proofs.Ytobbocolmlljdaa.P
namespace Go.Proofs.Ytobbocolmlljdaa.P
open Go.RowKit Go.Proofs.YtobbocolmlljdaaW.PrintWords Go.Proofs.YtobbocolmlljdaaW.PrintLast Go.Proofs.YtobbocolmlljdaaW.PrintMore
attribute [local go_sem] max2_int min2_int max_two min_two max_three min_three max_four min_four
set_option linter.unusedVariables false
set_option linter.unusedSimpArgs false
theorem eqA33 (d : Nat) (w : World) (x0 y0 : Int) (x1 y1 : ByteArray) (x2 y2 : Int) (x3 y3 : Int) (x4 y4 : ByteArray) :
    (Op.equalIn (d + 2) 33 (.agg #[.int .i64 x0, .string x1, .int .i64 x2, .int .i64 x3, .string x4]) (.agg #[.int .i64 y0, .string y1, .int .i64 y2, .int .i64 y3, .string y4])).run Try.prog w = .ok (x0 == y0 && (x1.toList == y1.toList && (x2 == y2 && (x3 == y3 && (x4.toList == y4.toList))))) w := by
  refine eqA_of Try.underlying33 (by kernel_rfl) ?_
  refine eqf_cons (by rfl) (by go_simp; rfl) (by go_simp; rfl) (by go_simp) ?_
  refine eqf_cons (by rfl) (by go_simp; rfl) (by go_simp; rfl) (by go_simp) ?_
  refine eqf_cons (by rfl) (by go_simp; rfl) (by go_simp; rfl) (by go_simp) ?_
  refine eqf_cons (by rfl) (by go_simp; rfl) (by go_simp; rfl) (by go_simp) ?_
  exact eqf_last (by rfl) (by go_simp; rfl) (by go_simp; rfl) (by go_simp)
end Go.Proofs.Ytobbocolmlljdaa.P
namespace Go.Proofs.Ytobbocolmlljdaa.P
open Go.RowKit Go.Proofs.YtobbocolmlljdaaW.PrintWords Go.Proofs.YtobbocolmlljdaaW.PrintLast Go.Proofs.YtobbocolmlljdaaW.PrintMore
attribute [local go_sem] max2_int min2_int max_two min_two max_three min_three max_four min_four
set_option linter.unusedVariables false
set_option linter.unusedSimpArgs false
theorem eqA37 (d : Nat) (w : World) (x0 y0 : Int) (x1 y1 : Int) :
    (Op.equalIn (d + 2) 37 (.agg #[.int .i64 x0, .int .i64 x1]) (.agg #[.int .i64 y0, .int .i64 y1])).run Try.prog w = .ok (x0 == y0 && (x1 == y1)) w := by
  refine eqA_of Try.underlying37 (by kernel_rfl) ?_
  refine eqf_cons (by rfl) (by go_simp; rfl) (by go_simp; rfl) (by go_simp) ?_
  exact eqf_last (by rfl) (by go_simp; rfl) (by go_simp; rfl) (by go_simp)
end Go.Proofs.Ytobbocolmlljdaa.P
namespace Go.Proofs.Ytobbocolmlljdaa.P
open Go.RowKit Go.Proofs.YtobbocolmlljdaaW.PrintWords Go.Proofs.YtobbocolmlljdaaW.PrintLast Go.Proofs.YtobbocolmlljdaaW.PrintMore
attribute [local go_sem] max2_int min2_int max_two min_two max_three min_three max_four min_four
set_option linter.unusedVariables false
set_option linter.unusedSimpArgs false
theorem eqA84 (d : Nat) (w : World) (x0 y0 : Int) (x1 y1 : Int) (x2 y2 : Int) (x3 y3 : Int) :
    (Op.equalIn (d + 2) 84 (.agg #[.int .i64 x0, .int .i64 x1, .int .i64 x2, .int .i64 x3]) (.agg #[.int .i64 y0, .int .i64 y1, .int .i64 y2, .int .i64 y3])).run Try.prog w = .ok (x0 == y0 && (x1 == y1 && (x2 == y2 && (x3 == y3)))) w := by
  refine eqA_of Try.underlying84 (by kernel_rfl) ?_
  refine eqf_cons (by rfl) (by go_simp; rfl) (by go_simp; rfl) (by go_simp) ?_
  refine eqf_cons (by rfl) (by go_simp; rfl) (by go_simp; rfl) (by go_simp) ?_
  refine eqf_cons (by rfl) (by go_simp; rfl) (by go_simp; rfl) (by go_simp) ?_
  exact eqf_last (by rfl) (by go_simp; rfl) (by go_simp; rfl) (by go_simp)
theorem eqA86 (d : Nat) (w : World) (x0 y0 : Int) (x1 y1 : Int) (x2 y2 : Int) (x3 y3 : Int) (x4 y4 : Int) :
    (Op.equalIn (d + 3) 86 (.agg #[.int .i64 x0, .int .i64 x1, .int .i64 x2, .int .i64 x3, .int .i64 x4]) (.agg #[.int .i64 y0, .int .i64 y1, .int .i64 y2, .int .i64 y3, .int .i64 y4])).run Try.prog w = .ok (x0 == y0 && ((x1 == y1 && (x2 == y2 && (x3 == y3 && (x4 == y4)))))) w := by
  refine eqA_of Try.underlying86 (by kernel_rfl) ?_
  refine eqf_cons (by rfl) (by go_simp; rfl) (by go_simp; rfl) (by go_simp) ?_
  exact eqf_last (by rfl) (by go_simp) (by go_simp) (eqA84 (d + 0) w _ _ _ _ _ _ _ _)
end Go.Proofs.Ytobbocolmlljdaa.P
