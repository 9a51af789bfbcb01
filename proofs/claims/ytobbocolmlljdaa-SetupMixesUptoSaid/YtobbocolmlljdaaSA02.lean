/- Texts of this claim, merged by pack.py: S6 -/
import Derived.Test.YtobbocolmlljdaaSA01
namespace Go.Proofs.Ytobbocolmlljdaa.P
open Go.RowKit Go.Proofs.YtobbocolmlljdaaW.PrintWords Go.Proofs.YtobbocolmlljdaaW.PrintLast Go.Proofs.YtobbocolmlljdaaW.PrintMore Go.Proofs.YtobbocolmlljdaaW.HB
set_option linter.unusedVariables false
set_option linter.unusedSimpArgs false
theorem size41 : (Try.prog.info? 41).map (·.size) = some 33 := by have := info41; revert this; cases Try.prog.info? 41 <;> simp_all
theorem exec_load_row {P : Program} {o : Oper} {a : Act} {w : World} (ty : TypeId) (x : Operand) (ho : o.op = .load ty x) (ad : Addr) (hx : a.eval x = .pointer (some ad)) (cs : List Value) (d : TypeDesc) (hc : ∀ j u, cs[j]? = some u → w.cell? (ad.add j) = some u)
    (hu : P.underlying ty = some d) (hd : d.isRow = true) (hi : (P.info? ty).map (·.size) = some cs.length) : (execOp a.eval o).run P w = .ok (.value (.agg cs.toArray)) w := by
  unfold execOp
  have := run_load_row (P := P) (w := w) ad ty cs d hc hu hd hi
  simp only [ho, hx, Sem.run_bind, this, Result.andThen_ok]
  rfl
theorem wp_lit_row {o : Oper} {a : Act} {w : World} {K : Act → World → Prop} {Q : Exit → Act → World → Prop} (x : Operand) (ho : o.op = .buildSlice 22 1 #[(0, x)]) (cs : List Value) (hx : a.eval x = .agg cs.toArray) (hl : cs.length = 33)
    (h : K (a.put o.dst (.slice (some ⟨w.heap.size, 0, none⟩) 1 1)) (w.alloc (.cells cs.toArray 41))) : o.wp Try.prog a w K Q := by
  obtain ⟨ie, hie, hz⟩ := Option.map_eq_some_iff.1 info41
  simp only [Prod.mk.injEq] at hz
  obtain ⟨hz0, hz1, hz2⟩ := hz
  refine wp_buildSlice 22 41 1 #[(0, x)] ho cs.toArray ie _ Try.underlying22 hie hz0 (by rw [hz1]; decide) (by rw [hz1]; decide) ?_ h
  rw [hz1]
  rw [show (Array.map (fun y : Nat × Operand => (y.1, a.eval y.2)) #[(0, x)]).toList = [(0, Value.agg cs.toArray)] from by simp [hx]]
  exact fill_one _ cs (by simp) hl
theorem add_zero_addr (a : Addr) : a.add 0 = a := by simp [Addr.add]
set_option maxRecDepth 100000 in
set_option maxHeartbeats 4000000 in
theorem mix_1.calls (w0 : World) (pa pb po g bx : Nat) (A B : Option Addr) (ca cb : Nat) (v : Value) (a b out : List (List Value)) (s : Int) (W : World) (n : Apart5 w0.heap.size pa pb po g bx) (h : MX w0 W pa pb po g bx A B ca cb v a b out s) (hl : out.length + a.length + b.length ≤ 4000000) :
    Calls Try.prog 17 #[.pointer (some ⟨g, 0, none⟩), .pointer (some ⟨pa, 0, none⟩), .pointer (some ⟨pb, 0, none⟩), .pointer (some ⟨po, 0, none⟩)] W fun e W' => (∃ u, e = .returned u) ∧
      ∃ A' B' ca' cb' v' a' b' out' s', MX w0 W' pa pb po g bx A' B' ca' cb' v' a' b' out' s' ∧ (a' = [] ∨ b' = []) ∧ out' ++ (a' ++ b') = out ++ mixS a b s ∧ out'.length + a'.length + b'.length = out.length + a.length + b.length := by
  have HN := Aside0.mk n
  have HM := Aside0.mk h
  have HL := Aside0.mk hl
  have HT := Aside0.mk (rfl : out ++ mixS a b s = out ++ mixS a b s)
  clear h hl
  go_enter Try.func17, Try.ntmps17
  go_wp2
  go_loopg [] (a.length + b.length) (fun kq w' => ∃ A' B' ca' cb' v' a' b' out' s', Aside0 (MX w0 w' pa pb po g bx A' B' ca' cb' v' a' b' out' s') ∧ Aside0 (out' ++ mixS a' b' s' = out ++ mixS a b s) ∧ Aside0 (out'.length + a'.length + b'.length = out.length + a.length + b.length) ∧ Aside0 (a'.length + b'.length ≤ kq))
  case atStart => exact ⟨_, _, _, _, _, _, _, _, _, HM, ⟨rfl⟩, ⟨rfl⟩, ⟨Nat.le_refl _⟩⟩
  case round =>
    clear HM HT
    obtain ⟨A', B', ca', cb', v', a', b', out', s', HM, HX, HLN, HK⟩ := hrel
    have ha0 := HM.out.qa.cell
    have hb0 := HM.out.qb.cell
    cases a' with
    | nil =>
      go_wp2
      go_end0
      exact ⟨⟨_, rfl⟩, _, _, _, _, _, _, _, _, _, HM.out, Or.inl rfl, by simpa [mixS] using HX.out, HLN.out⟩
    | cons rowa ta =>
      cases b' with
      | nil =>
        go_wp2
        go_end0
        exact ⟨⟨_, rfl⟩, _, _, _, _, _, _, _, _, _, HM.out, Or.inr rfl, by simpa [mixS] using HX.out, HLN.out⟩
      | cons rowb tb =>
        by_cases hc : coin s' = 0
        · go_upto_region 2 with (go_at_call 18; refine (one.calls g bx s' wr HM.out.d HM.out.x).mono ?_; rintro e w1 ⟨rfl, rfl⟩)
          have M1 := HM.out.step HN.out
          clear HM ha0 hb0
          generalize stepX wr bx s' = w1 at M1
          obtain ⟨ad, e, h33, hone, hcell⟩ := raw_at M1.ra 0 (by simp) (by simp)
          cases e
          have hcw := Kd_cells hcell M1.below
          simp only [List.getElem_cons_zero] at h33 hone hcw
          rw [Nat.zero_mul, add_zero_addr] at hcw
          have hca := M1.qa.cell
          have hco := M1.qo.cell
          have hfa := M1.qa.frozen
          have hfo := M1.qo.frozen
          have M1 := Aside0.mk M1
          refine wp_region_C [8, 9] (fun b W => (∀ j u, rowa[j]? = some u → W.cell? (ad.add j) = some u) ∧ (b = 8 → W.cell? ⟨po, 0, none⟩ = some v') ∧ (W.cell? ⟨pa, 0, none⟩ = some (.slice (some ad) (rowa :: ta).length ca'))) (by rfl) ?_ ?_
          · intro b hb
            refine ⟨hcw, fun _ => hco, hca⟩
          intro hU
          refine wpAnyC_take (i := 0) (b := 8) (D := [5, 8]) (v := v') rfl (by kernel_rfl) (by kernel_rfl) (by kernel_rfl) (by kernel_rfl) (by simp) (by simp) (by simp) (by kernel_rfl) (fun _ _ _ h => h) (Or.inl ⟨by rfl, fun W hW => by obtain ⟨h1, h2, h3⟩ := hW; have h2 := h2 rfl; go_simp⟩) hU (fun hU => ?_)
          try simp only [Act.put, List.setIfInBounds_toArray, List.set_cons_zero, List.set_cons_succ]
          refine wpAnyC_take (i := 1) (b := 9) (D := [2, 3, 4, 5, 8, 9]) (v := .slice (some ad) (rowa :: ta).length ca') rfl (by kernel_rfl) (by kernel_rfl) (by kernel_rfl) (by kernel_rfl) (by simp) (by simp) (by simp) (by kernel_rfl) (fun _ _ _ h => h) (Or.inl ⟨by rfl, fun W hW => by obtain ⟨h1, h2, h3⟩ := hW; clear h1 h2; go_simp⟩) hU (fun hU => ?_)
          try simp only [Act.put, List.setIfInBounds_toArray, List.set_cons_zero, List.set_cons_succ]
          refine wpAnyC_take (i := 2) (b := 9) (D := [3, 4, 5, 8, 9]) (v := .pointer (some ad)) rfl (by kernel_rfl) (by kernel_rfl) (by kernel_rfl) (by kernel_rfl) (by simp) (by simp) (by simp) (by kernel_rfl) (fun _ _ _ h => h) (Or.inl ⟨by rfl, fun W hW => by obtain ⟨h1, h2, h3⟩ := hW; clear h1 h2; go_simp; go_show⟩) hU (fun hU => ?_)
          try simp only [Act.put, List.setIfInBounds_toArray, List.set_cons_zero, List.set_cons_succ]
          refine wpAnyC_take (i := 3) (b := 9) (D := [4, 5, 8, 9]) (v := .agg rowa.toArray) rfl (by kernel_rfl) (by kernel_rfl) (by kernel_rfl) (by kernel_rfl) (by simp) (by simp) (by simp) (by kernel_rfl) (fun _ _ _ h => h) (Or.inl ⟨by rfl, fun W hW => exec_load_row _ _ rfl ad rfl rowa _ hW.1 Try.underlying41 rfl (by rw [h33]; exact size41)⟩) hU (fun hU => ?_)
          try simp only [Act.put, List.setIfInBounds_toArray, List.set_cons_zero, List.set_cons_succ]
          refine wpAnyC_take (i := 6) (b := 9) (D := [7, 9]) (v := .slice (some ad) (rowa :: ta).length ca') rfl (by kernel_rfl) (by kernel_rfl) (by kernel_rfl) (by kernel_rfl) (by simp) (by simp) (by simp) (by kernel_rfl) (fun _ _ _ h => h) (Or.inl ⟨by rfl, fun W hW => by obtain ⟨h1, h2, h3⟩ := hW; clear h1 h2; go_simp⟩) hU (fun hU => ?_)
          try simp only [Act.put, List.setIfInBounds_toArray, List.set_cons_zero, List.set_cons_succ]
          have h1le : (1 : Int) ≤ (ta.length : Int) + 1 := by omega
          obtain ⟨A8, hA8⟩ : ∃ A8 : Option Addr, (if ca' = 1 then some ad else some ⟨ad.block, ad.off + 33, none⟩) = A8 := ⟨_, rfl⟩
          refine wpAnyC_take (i := 7) (b := 9) (D := [9]) (v := .slice A8 ta.length (ca' - 1)) rfl (by kernel_rfl) (by kernel_rfl) (by kernel_rfl) (by kernel_rfl) (by simp) (by simp) (by simp) (by kernel_rfl) (fun _ _ _ h => h) (Or.inl ⟨by rfl, fun W hW => by clear hW; go_simp; done⟩) hU (fun hU => ?_)
          try simp only [Act.put, List.setIfInBounds_toArray, List.set_cons_zero, List.set_cons_succ]
          have CA : Kd.C kRaw w0 A8 ta.length ta := by
            have := Kd.C_drop (m := 1) (c := ca') M1.out.ra (by simp) M1.out.hca
            rw [← hA8]
            simpa [kRaw, Kd.raw, Addr.add] using this
          have hca8 : ta.length ≤ ca' - 1 := by have := M1.out.hca; simp at this; omega
          have M2 := Aside0.mk M1.out.drew
          refine wpAnyC_one (i := 4) (by kernel_rfl) rfl (fun K hK => ?_)
          rw [if_pos (by rfl)]
          refine wp_lit_row (.tmp 19) (by rfl) rowa (by rfl) h33 ?_
          refine hK _ _ ?_ (fun hU => ?_)
          · intro c hc hL
            have hc' : c = 8 ∨ c = 9 := by simpa using hc
            have h9 := hU 9 (by simp) (by rfl)
            have h8 := hU 8 (by simp) (by rfl)
            exact ⟨Kd_cells hcell (below_alloc M2.out.below _), fun _ => (World.cell?_alloc_lt _ _ _ (World.block_lt_of_cell? _ _ (h8.2.1 rfl))).trans (h8.2.1 rfl), (World.cell?_alloc_lt _ _ _ (World.block_lt_of_cell? _ _ h9.2.2)).trans h9.2.2⟩
          clear hK K
          try simp only [Act.put, List.setIfInBounds_toArray, List.set_cons_zero, List.set_cons_succ]
          refine wpAnyC_one (i := 5) (by kernel_rfl) rfl (fun K hK => ?_)
          refine Kd.R_append_step kRaw (w0 := w0) w0.heap.size (by rfl) (.tmp 16) (.tmp 20) 22 41 (.agg #[(.int .i64 0), (.int .i64 0), (.int .i64 0), (.int .i64 0), (.int .i64 0), (.int .i64 0), (.int .u64 0), (.int .i64 0), (.int .i64 0), (.int .i64 0), (.int .i64 0), (.int .i64 0), (.int .i64 0), (.int .i64 0), (.int .i64 0), (.int .i64 0), (.int .i64 0), (.string ⟨#[]⟩), (.int .i64 0), (.int .i64 0), (.string ⟨#[]⟩), (.string ⟨#[]⟩), (.int .i64 0), (.int .i64 0), (.int .i64 0), (.string ⟨#[]⟩), (.bool false), (.int .i64 0), (.slice none 0 0), (.string ⟨#[]⟩), (.int .i64 0), (.int .i64 0), (.int .i64 0)]) 320 rfl Try.underlying22 info41 rfl (by decide) (by omega) v' out' rowa rowa (fun _ => True) (fun _ => False) (by rfl) (by rfl) ⟨rfl, h33, hone⟩ (fun _ h => h.elim) (fun _ _ => trivial) M2.out.r M2.out.below M2.out.below.size ?hl ?_
          case hl => have := HL.out; have := HLN.out; simp at this; omega
          intro vn w2 hr hb hg hat
          obtain ⟨An, nn, cn, rfl⟩ : ∃ An nn cn, vn = .slice An nn cn := by
            obtain ⟨An, cn, e⟩ := Kd.R_slice hr
            exact ⟨_, _, _, e⟩
          have q2 := M2.out.qo.kept hg M2.out.not_row.2.2.1
          have p2 := M2.out.qa.kept hg M2.out.not_row.1
          refine hK _ _ ?_ (fun hU => ?_)
          · intro c hc hL
            exact ⟨Kd_cells hcell hb, fun _ => q2.cell, p2.cell⟩
          clear hK K
          try simp only [Act.put, List.setIfInBounds_toArray, List.set_cons_zero, List.set_cons_succ]
          have hq2 := q2.cell
          have hq3 := q2.frozen
          refine wpAnyC_one (i := 8) (by kernel_rfl) rfl (fun K hK => ?_)
          go_simp
          refine hK _ _ ?_ (fun hU => ?_)
          · intro c hc hL
            have hc' : c = 9 := by
              have : c = 8 ∨ c = 9 := by simpa using hc
              rcases this with rfl | rfl
              · exact absurd hL (by simp)
              · rfl
            subst hc'
            exact ⟨Kd_cells hcell (below_set hb HN.out.lo), fun h => absurd h (by decide), (p2.other HN.out.nao _).cell⟩
          clear hK K
          try simp only [Act.put, List.setIfInBounds_toArray, List.set_cons_zero, List.set_cons_succ]
          have hq4 := (p2.other HN.out.nao (.slice An nn cn)).cell
          have hq5 := (p2.other HN.out.nao (.slice An nn cn)).frozen
          refine wpAnyC_one (i := 9) (by kernel_rfl) rfl (fun K hK => ?_)
          go_simp
          refine hK _ _ ?_ (fun hU => ?_)
          · intro c hc hL
            exfalso
            have : c = 8 ∨ c = 9 := by simpa using hc
            rcases this with rfl | rfl
            · exact absurd hL (by simp)
            · exact absurd hL (by simp)
          clear hK K
          try simp only [Act.put, List.setIfInBounds_toArray, List.set_cons_zero, List.set_cons_succ]
          refine wpAnyC_done (by kernel_rfl) ?_ _
          have M3 := Aside0.mk (M2.out.moveA HN.out hr hg hb CA hca8)
          clear hA8
          clear hr hg hb hq2 hq3 hq4 hq5 q2 p2
          have HK0 := HK.out
          simp only [List.length_cons] at HK0
          obtain ⟨g', rfl⟩ : ∃ g', gk = g' + 1 := ⟨gk - 1, by omega⟩
          have HK := Aside0.mk HK0
          clear HK0
          go_wp2
          go_roundg g'
          case rel =>
            refine ⟨_, _, _, _, _, _, _, _, _, M3, ⟨?_⟩, ⟨?_⟩, ⟨?_⟩⟩
            · rw [← HX.out, List.append_assoc]
              conv => rhs; rw [mixS]
              rw [if_pos hc]
              rfl
            · rw [← HLN.out]; simp only [List.length_append, List.length_cons, List.length_nil]; omega
            · have := HK.out; simp only [List.length_cons]; omega
          case measure => omega
        · go_upto_region 3 with (go_at_call 18; refine (one.calls g bx s' wr HM.out.d HM.out.x).mono ?_; rintro e w1 ⟨rfl, rfl⟩)
          have M1 := HM.out.step HN.out
          clear HM ha0 hb0
          generalize stepX wr bx s' = w1 at M1
          obtain ⟨ad, e, h33, hone, hcell⟩ := raw_at M1.rb 0 (by simp) (by simp)
          cases e
          have hcw := Kd_cells hcell M1.below
          simp only [List.getElem_cons_zero] at h33 hone hcw
          rw [Nat.zero_mul, add_zero_addr] at hcw
          have hca := M1.qb.cell
          have hco := M1.qo.cell
          have hfa := M1.qb.frozen
          have hfo := M1.qo.frozen
          have M1 := Aside0.mk M1
          refine wp_region_C [8, 9] (fun b W => (∀ j u, rowb[j]? = some u → W.cell? (ad.add j) = some u) ∧ (b = 8 → W.cell? ⟨po, 0, none⟩ = some v') ∧ (W.cell? ⟨pb, 0, none⟩ = some (.slice (some ad) (rowb :: tb).length cb'))) (by rfl) ?_ ?_
          · intro b hb
            refine ⟨hcw, fun _ => hco, hca⟩
          intro hU
          refine wpAnyC_take (i := 0) (b := 8) (D := [5, 8]) (v := v') rfl (by kernel_rfl) (by kernel_rfl) (by kernel_rfl) (by kernel_rfl) (by simp) (by simp) (by simp) (by kernel_rfl) (fun _ _ _ h => h) (Or.inl ⟨by rfl, fun W hW => by obtain ⟨h1, h2, h3⟩ := hW; have h2 := h2 rfl; go_simp⟩) hU (fun hU => ?_)
          try simp only [Act.put, List.setIfInBounds_toArray, List.set_cons_zero, List.set_cons_succ]
          refine wpAnyC_take (i := 1) (b := 9) (D := [2, 3, 4, 5, 8, 9]) (v := .slice (some ad) (rowb :: tb).length cb') rfl (by kernel_rfl) (by kernel_rfl) (by kernel_rfl) (by kernel_rfl) (by simp) (by simp) (by simp) (by kernel_rfl) (fun _ _ _ h => h) (Or.inl ⟨by rfl, fun W hW => by obtain ⟨h1, h2, h3⟩ := hW; clear h1 h2; go_simp⟩) hU (fun hU => ?_)
          try simp only [Act.put, List.setIfInBounds_toArray, List.set_cons_zero, List.set_cons_succ]
          refine wpAnyC_take (i := 2) (b := 9) (D := [3, 4, 5, 8, 9]) (v := .pointer (some ad)) rfl (by kernel_rfl) (by kernel_rfl) (by kernel_rfl) (by kernel_rfl) (by simp) (by simp) (by simp) (by kernel_rfl) (fun _ _ _ h => h) (Or.inl ⟨by rfl, fun W hW => by obtain ⟨h1, h2, h3⟩ := hW; clear h1 h2; go_simp; go_show⟩) hU (fun hU => ?_)
          try simp only [Act.put, List.setIfInBounds_toArray, List.set_cons_zero, List.set_cons_succ]
          refine wpAnyC_take (i := 3) (b := 9) (D := [4, 5, 8, 9]) (v := .agg rowb.toArray) rfl (by kernel_rfl) (by kernel_rfl) (by kernel_rfl) (by kernel_rfl) (by simp) (by simp) (by simp) (by kernel_rfl) (fun _ _ _ h => h) (Or.inl ⟨by rfl, fun W hW => exec_load_row _ _ rfl ad rfl rowb _ hW.1 Try.underlying41 rfl (by rw [h33]; exact size41)⟩) hU (fun hU => ?_)
          try simp only [Act.put, List.setIfInBounds_toArray, List.set_cons_zero, List.set_cons_succ]
          refine wpAnyC_take (i := 6) (b := 9) (D := [7, 9]) (v := .slice (some ad) (rowb :: tb).length cb') rfl (by kernel_rfl) (by kernel_rfl) (by kernel_rfl) (by kernel_rfl) (by simp) (by simp) (by simp) (by kernel_rfl) (fun _ _ _ h => h) (Or.inl ⟨by rfl, fun W hW => by obtain ⟨h1, h2, h3⟩ := hW; clear h1 h2; go_simp⟩) hU (fun hU => ?_)
          try simp only [Act.put, List.setIfInBounds_toArray, List.set_cons_zero, List.set_cons_succ]
          have h1le : (1 : Int) ≤ (tb.length : Int) + 1 := by omega
          obtain ⟨A8, hA8⟩ : ∃ A8 : Option Addr, (if cb' = 1 then some ad else some ⟨ad.block, ad.off + 33, none⟩) = A8 := ⟨_, rfl⟩
          refine wpAnyC_take (i := 7) (b := 9) (D := [9]) (v := .slice A8 tb.length (cb' - 1)) rfl (by kernel_rfl) (by kernel_rfl) (by kernel_rfl) (by kernel_rfl) (by simp) (by simp) (by simp) (by kernel_rfl) (fun _ _ _ h => h) (Or.inl ⟨by rfl, fun W hW => by clear hW; go_simp; done⟩) hU (fun hU => ?_)
          try simp only [Act.put, List.setIfInBounds_toArray, List.set_cons_zero, List.set_cons_succ]
          have CA : Kd.C kRaw w0 A8 tb.length tb := by
            have := Kd.C_drop (m := 1) (c := cb') M1.out.rb (by simp) M1.out.hcb
            rw [← hA8]
            simpa [kRaw, Kd.raw, Addr.add] using this
          have hca8 : tb.length ≤ cb' - 1 := by have := M1.out.hcb; simp at this; omega
          have M2 := Aside0.mk M1.out.drew
          refine wpAnyC_one (i := 4) (by kernel_rfl) rfl (fun K hK => ?_)
          rw [if_pos (by rfl)]
          refine wp_lit_row (.tmp 27) (by rfl) rowb (by rfl) h33 ?_
          refine hK _ _ ?_ (fun hU => ?_)
          · intro c hc hL
            have hc' : c = 8 ∨ c = 9 := by simpa using hc
            have h9 := hU 9 (by simp) (by rfl)
            have h8 := hU 8 (by simp) (by rfl)
            exact ⟨Kd_cells hcell (below_alloc M2.out.below _), fun _ => (World.cell?_alloc_lt _ _ _ (World.block_lt_of_cell? _ _ (h8.2.1 rfl))).trans (h8.2.1 rfl), (World.cell?_alloc_lt _ _ _ (World.block_lt_of_cell? _ _ h9.2.2)).trans h9.2.2⟩
          clear hK K
          try simp only [Act.put, List.setIfInBounds_toArray, List.set_cons_zero, List.set_cons_succ]
          refine wpAnyC_one (i := 5) (by kernel_rfl) rfl (fun K hK => ?_)
          refine Kd.R_append_step kRaw (w0 := w0) w0.heap.size (by rfl) (.tmp 24) (.tmp 28) 22 41 (.agg #[(.int .i64 0), (.int .i64 0), (.int .i64 0), (.int .i64 0), (.int .i64 0), (.int .i64 0), (.int .u64 0), (.int .i64 0), (.int .i64 0), (.int .i64 0), (.int .i64 0), (.int .i64 0), (.int .i64 0), (.int .i64 0), (.int .i64 0), (.int .i64 0), (.int .i64 0), (.string ⟨#[]⟩), (.int .i64 0), (.int .i64 0), (.string ⟨#[]⟩), (.string ⟨#[]⟩), (.int .i64 0), (.int .i64 0), (.int .i64 0), (.string ⟨#[]⟩), (.bool false), (.int .i64 0), (.slice none 0 0), (.string ⟨#[]⟩), (.int .i64 0), (.int .i64 0), (.int .i64 0)]) 320 rfl Try.underlying22 info41 rfl (by decide) (by omega) v' out' rowb rowb (fun _ => True) (fun _ => False) (by rfl) (by rfl) ⟨rfl, h33, hone⟩ (fun _ h => h.elim) (fun _ _ => trivial) M2.out.r M2.out.below M2.out.below.size ?hl ?_
          case hl => have := HL.out; have := HLN.out; simp at this; omega
          intro vn w2 hr hb hg hat
          obtain ⟨An, nn, cn, rfl⟩ : ∃ An nn cn, vn = .slice An nn cn := by
            obtain ⟨An, cn, e⟩ := Kd.R_slice hr
            exact ⟨_, _, _, e⟩
          have q2 := M2.out.qo.kept hg M2.out.not_row.2.2.1
          have p2 := M2.out.qb.kept hg M2.out.not_row.2.1
          refine hK _ _ ?_ (fun hU => ?_)
          · intro c hc hL
            exact ⟨Kd_cells hcell hb, fun _ => q2.cell, p2.cell⟩
          clear hK K
          try simp only [Act.put, List.setIfInBounds_toArray, List.set_cons_zero, List.set_cons_succ]
          have hq2 := q2.cell
          have hq3 := q2.frozen
          refine wpAnyC_one (i := 8) (by kernel_rfl) rfl (fun K hK => ?_)
          go_simp
          refine hK _ _ ?_ (fun hU => ?_)
          · intro c hc hL
            have hc' : c = 9 := by
              have : c = 8 ∨ c = 9 := by simpa using hc
              rcases this with rfl | rfl
              · exact absurd hL (by simp)
              · rfl
            subst hc'
            exact ⟨Kd_cells hcell (below_set hb HN.out.lo), fun h => absurd h (by decide), (p2.other HN.out.nbo _).cell⟩
          clear hK K
          try simp only [Act.put, List.setIfInBounds_toArray, List.set_cons_zero, List.set_cons_succ]
          have hq4 := (p2.other HN.out.nbo (.slice An nn cn)).cell
          have hq5 := (p2.other HN.out.nbo (.slice An nn cn)).frozen
          refine wpAnyC_one (i := 9) (by kernel_rfl) rfl (fun K hK => ?_)
          go_simp
          refine hK _ _ ?_ (fun hU => ?_)
          · intro c hc hL
            exfalso
            have : c = 8 ∨ c = 9 := by simpa using hc
            rcases this with rfl | rfl
            · exact absurd hL (by simp)
            · exact absurd hL (by simp)
          clear hK K
          try simp only [Act.put, List.setIfInBounds_toArray, List.set_cons_zero, List.set_cons_succ]
          refine wpAnyC_done (by kernel_rfl) ?_ _
          have M3 := Aside0.mk (M2.out.moveB HN.out hr hg hb CA hca8)
          clear hA8
          clear hr hg hb hq2 hq3 hq4 hq5 q2 p2
          have HK0 := HK.out
          simp only [List.length_cons] at HK0
          obtain ⟨g', rfl⟩ : ∃ g', gk = g' + 1 := ⟨gk - 1, by omega⟩
          have HK := Aside0.mk HK0
          clear HK0
          go_wp2
          go_roundg g'
          case rel =>
            refine ⟨_, _, _, _, _, _, _, _, _, M3, ⟨?_⟩, ⟨?_⟩, ⟨?_⟩⟩
            · rw [← HX.out, List.append_assoc]
              conv => rhs; rw [mixS]
              rw [if_neg hc]
              rfl
            · rw [← HLN.out]; simp only [List.length_append, List.length_cons, List.length_nil]; omega
            · have := HK.out; simp only [List.length_cons]; omega
          case measure => omega
end Go.Proofs.Ytobbocolmlljdaa.P
