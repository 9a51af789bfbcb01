/- Texts of this claim, merged by pack.py: S8 S9 S10 H2 G1 G2 H1 PMapsFirst H3 H4 H5 H6 H7 HN N1 -/
import Derived.Test.YtobbocolmlljdaaSA03
import Derived.Test.YtobbocolmlljdaaSA05
import Derived.Test.YtobbocolmlljdaaSA01
import Derived.RangeFuncNested
namespace Go.Proofs.Ytobbocolmlljdaa.P
open Go.RowKit Go.Proofs.YtobbocolmlljdaaW.PrintWords Go.Proofs.YtobbocolmlljdaaW.PrintLast Go.Proofs.YtobbocolmlljdaaW.PrintMore Go.Proofs.YtobbocolmlljdaaW.HB
set_option linter.unusedVariables false
set_option linter.unusedSimpArgs false
def jl (k : Nat) (i : Int) (x y : S39) : Option Bool := reefref27_Jobs.l0 k i x.f0 x.f1 x.f2 x.f3 x.f4 x.f5 x.f6 x.f7 x.f8 x.f9.f0 x.f9.f1 y.f0 y.f1 y.f2 y.f3 y.f4 y.f5 y.f6 y.f7 y.f8 y.f9.f0 y.f9.f1
theorem jl_ans (x y : S39) (hl : x.f6.length = y.f6.length) (hm : x.f6.length ≤ 9223372036854775807) (d : Nat) : ∀ (k i : Nat), x.f6.length = i + d → d < k → ∃ r, jl k i x y = some r ∧ (x = y → r = true) := by
  induction d with
  | zero =>
    intro k i h hk
    obtain ⟨k, rfl⟩ : ∃ k', k = k' + 1 := ⟨k - 1, by omega⟩
    refine ⟨true, ?_, fun _ => rfl⟩
    unfold jl
    simp only [reefref27_Jobs.l0]
    rw [if_neg (by omega)]
  | succ d ih =>
    intro k i h hk
    obtain ⟨k, rfl⟩ : ∃ k', k = k' + 1 := ⟨k - 1, by omega⟩
    have hwi : wrap64 ((i : Int) + 1) = ((i + 1 : Nat) : Int) := by unfold wrap64; omega
    have h0 : (0 : Int) ≤ (i : Int) := by omega
    have h1 : (i : Int) < (x.f6.length : Int) := by omega
    have h2 : (i : Int) < (y.f6.length : Int) := by omega
    obtain ⟨r, hr, hrt⟩ := ih k (i + 1) (by omega) (by omega)
    unfold jl at hr ⊢
    simp only [reefref27_Jobs.l0]
    rw [if_pos h1, if_pos h0, if_pos h2, hwi]
    split
    · refine ⟨false, rfl, fun e => ?_⟩
      subst e
      rename_i hne
      simp at hne
    · exact ⟨r, hr, hrt⟩
def jb (k : Nat) (x y : S39) : Option Bool := reefref27_Jobs.f k x.f0 x.f1 x.f2 x.f3 x.f4 x.f5 x.f6 x.f7 x.f8 x.f9.f0 x.f9.f1 y.f0 y.f1 y.f2 y.f3 y.f4 y.f5 y.f6 y.f7 y.f8 y.f9.f0 y.f9.f1
def j0 (k : Nat) (b : Bool) (x y : S39) : Option Bool := reefref27_Jobs.j0 k b x.f0 x.f1 x.f2 x.f3 x.f4 x.f5 x.f6 x.f7 x.f8 x.f9.f0 x.f9.f1 y.f0 y.f1 y.f2 y.f3 y.f4 y.f5 y.f6 y.f7 y.f8 y.f9.f0 y.f9.f1
theorem j0_true (k : Nat) (x y : S39) : reefref27_Jobs.j0 (k + 1) true x.f0 x.f1 x.f2 x.f3 x.f4 x.f5 x.f6 x.f7 x.f8 x.f9.f0 x.f9.f1 y.f0 y.f1 y.f2 y.f3 y.f4 y.f5 y.f6 y.f7 y.f8 y.f9.f0 y.f9.f1 = some false := by
  simp only [reefref27_Jobs.j0]
  rw [if_pos trivial]
theorem jb_ans (x y : S39) (hm : x.f6.length ≤ 9223372036854775807) : ∃ r, jb (x.f6.length + 3) x y = some r ∧ (x = y → r = true) := by
  unfold jb reefref27_Jobs.f
  by_cases c0 : x.f0 = y.f0
  · rw [if_pos c0]
    by_cases c1 : x.f1 = y.f1
    · rw [if_pos c1]
      by_cases c2 : x.f2 = y.f2
      · rw [if_pos c2]
        by_cases c3 : x.f3.toList = y.f3.toList
        · rw [if_pos c3]
          by_cases c4 : (x.f4 != y.f4) = true
          · rw [if_pos c4]
            exact ⟨false, j0_true _ x y, fun e => by subst e; simp at c4⟩
          · rw [if_neg c4]
            by_cases c5 : x.f5 = y.f5
            · rw [if_pos c5]
              by_cases c7 : x.f7.toList = y.f7.toList
              · rw [if_pos c7]
                by_cases c8 : x.f8 = y.f8
                · rw [if_pos c8]
                  by_cases c9 : (!(x.f9.f0 == y.f9.f0) || (!(x.f9.f1 == y.f9.f1))) = true
                  · rw [if_pos c9]
                    exact ⟨false, j0_true _ x y, fun e => by subst e; simp at c9⟩
                  · rw [if_neg c9]
                    by_cases c6 : x.f6.length = y.f6.length
                    · rw [show ((x.f6.length : Int) != (y.f6.length : Int)) = false from by simp [c6]]
                      obtain ⟨r, hr, hrt⟩ := jl_ans x y c6 hm x.f6.length (x.f6.length + 2) 0 (by omega) (by omega)
                      refine ⟨r, ?_, hrt⟩
                      simp only [reefref27_Jobs.j0]
                      rw [if_neg (by decide)]
                      exact hr
                    · rw [show ((x.f6.length : Int) != (y.f6.length : Int)) = true from by simp; omega]
                      exact ⟨false, j0_true _ x y, fun e => by subst e; exact absurd rfl c6⟩
                · rw [if_neg c8]
                  exact ⟨false, j0_true _ x y, fun e => by subst e; exact absurd rfl c8⟩
              · rw [if_neg c7]
                exact ⟨false, j0_true _ x y, fun e => by subst e; exact absurd rfl c7⟩
            · rw [if_neg c5]
              exact ⟨false, j0_true _ x y, fun e => by subst e; exact absurd rfl c5⟩
        · rw [if_neg c3]
          exact ⟨false, j0_true _ x y, fun e => by subst e; exact absurd rfl c3⟩
      · rw [if_neg c2]
        exact ⟨false, j0_true _ x y, fun e => by subst e; exact absurd rfl c2⟩
    · rw [if_neg c1]
      exact ⟨false, j0_true _ x y, fun e => by subst e; exact absurd rfl c1⟩
  · rw [if_neg c0]
    exact ⟨false, j0_true _ x y, fun e => by subst e; exact absurd rfl c0⟩
def ssf (x y : S41) : Option Bool := reefref31_SameStep.f (x.f9.f6.length + 3) x.f0 x.f1.f0 x.f1.f1 x.f2.f0 x.f2.f1 x.f3 x.f4 x.f5.f0 x.f5.f1 x.f5.f2 x.f5.f3 x.f5.f4.f0 x.f5.f4.f1 x.f5.f4.f2 x.f5.f4.f3 x.f6 x.f7.f0 x.f7.f1 x.f7.f2 x.f7.f3 x.f7.f4 x.f8 x.f9.f0 x.f9.f1 x.f9.f2 x.f9.f3 x.f9.f4 x.f9.f5 x.f9.f6 x.f9.f7 x.f9.f8 x.f9.f9.f0 x.f9.f9.f1 y.f0 y.f1.f0 y.f1.f1 y.f2.f0 y.f2.f1 y.f3 y.f4 y.f5.f0 y.f5.f1 y.f5.f2 y.f5.f3 y.f5.f4.f0 y.f5.f4.f1 y.f5.f4.f2 y.f5.f4.f3 y.f6 y.f7.f0 y.f7.f1 y.f7.f2 y.f7.f3 y.f7.f4 y.f8 y.f9.f0 y.f9.f1 y.f9.f2 y.f9.f3 y.f9.f4 y.f9.f5 y.f9.f6 y.f9.f7 y.f9.f8 y.f9.f9.f0 y.f9.f9.f1
theorem ssf_ans (x y : S41) (hm : x.f9.f6.length ≤ 9223372036854775807) : ∃ r, ssf x y = some r ∧ (x = y → r = true) := by
  have hn : ∀ c : Prop, (x = y → c) → ¬ c → ∃ r, some false = some r ∧ (x = y → r = true) := fun c h1 h2 => ⟨false, rfl, fun e => absurd (h1 e) h2⟩
  obtain ⟨r, hr, hrt⟩ := jb_ans x.f9 y.f9 hm
  unfold jb at hr
  unfold ssf reefref31_SameStep.f
  rw [hr, Option.bind_some]
  split
  · split
    · split
      · split
        · split
          · split
            · split
              · split
                · split
                  · exact ⟨r, rfl, fun e => hrt (by rw [e])⟩
                  · rename_i h; exact hn _ (fun e => by rw [e]) h
                · rename_i h; exact hn _ (fun e => by rw [e]; simp) h
              · rename_i h; exact hn _ (fun e => by rw [e]) h
            · rename_i h; exact hn _ (fun e => by rw [e]; simp) h
          · rename_i h; exact hn _ (fun e => by rw [e]) h
        · rename_i h; exact hn _ (fun e => by rw [e]) h
      · rename_i h; exact hn _ (fun e => by rw [e]; simp) h
    · rename_i h; exact hn _ (fun e => by rw [e]; simp) h
  · rename_i h; exact hn _ (fun e => by rw [e]) h
noncomputable def stepOf (w : World) (row : List Value) : S41 := open Classical in if h : ∃ x, k41.K w x row then Classical.choose h else z41
def IsStep (w : World) (row : List Value) : Prop := ∃ x, k41.K w x row
theorem stepOf_K {w : World} {row : List Value} (h : IsStep w row) : k41.K w (stepOf w row) row := by
  unfold stepOf
  split
  · rename_i h'; exact Classical.choose_spec h'
  · rename_i h'; exact absurd h h'
noncomputable def sameR (w : World) (a b : List Value) : Bool := (ssf (stepOf w a) (stepOf w b)).getD false
theorem C_len {α : Type} {d : Kd α} {w : World} {A : Option Addr} {n : Nat} {xs : List α} (h : Kd.C d w A n xs) : xs.length ≤ 9223372036854775807 := by
  have h1 := h.1
  have h2 := h.2.1
  first | omega | (unfold maxLen at h2; omega)
theorem sameR_refl {w : World} {a : List Value} (h : IsStep w a) : sameR w a a = true := by
  obtain ⟨A, c, e, l, g⟩ := k41_open (stepOf_K h)
  obtain ⟨r, hr, hrt⟩ := ssf_ans (stepOf w a) (stepOf w a) (C_len g)
  unfold sameR
  rw [hr, hrt rfl]
  rfl
theorem same.calls (w W : World) (a b : List Value) (ha : IsStep w a) (hb : IsStep w b) (hB : Below w.heap.size w W) :
    Calls Try.prog 8 #[.agg a.toArray, .agg b.toArray] W fun e W' => e = .returned (.bool (sameR w a b)) ∧ Below W.heap.size W W' := by
  obtain ⟨A0, c0, e0, l0, g0⟩ := k41_open (stepOf_K ha)
  obtain ⟨A1, c1, e1, l1, g1⟩ := k41_open (stepOf_K hb)
  obtain ⟨r, hr, -⟩ := ssf_ans (stepOf w a) (stepOf w b) (C_len g0)
  have hs : sameR w a b = r := by unfold sameR; rw [hr]; rfl
  rw [hs]
  unfold ssf at hr
  generalize stepOf w a = x at *
  generalize stepOf w b = y at *
  subst e0 e1
  exact reefref31_SameStep.calls (x.f9.f6.length + 3) x.f0 x.f1.f0 x.f1.f1 x.f2.f0 x.f2.f1 x.f3 x.f4 x.f5.f0 x.f5.f1 x.f5.f2 x.f5.f3 x.f5.f4.f0 x.f5.f4.f1 x.f5.f4.f2 x.f5.f4.f3 x.f6 x.f7.f0 x.f7.f1 x.f7.f2 x.f7.f3 x.f7.f4 x.f8 x.f9.f0 x.f9.f1 x.f9.f2 x.f9.f3 x.f9.f4 x.f9.f5 A0 c0 x.f9.f6 x.f9.f7 x.f9.f8 x.f9.f9.f0 x.f9.f9.f1 y.f0 y.f1.f0 y.f1.f1 y.f2.f0 y.f2.f1 y.f3 y.f4 y.f5.f0 y.f5.f1 y.f5.f2 y.f5.f3 y.f5.f4.f0 y.f5.f4.f1 y.f5.f4.f2 y.f5.f4.f3 y.f6 y.f7.f0 y.f7.f1 y.f7.f2 y.f7.f3 y.f7.f4 y.f8 y.f9.f0 y.f9.f1 y.f9.f2 y.f9.f3 y.f9.f4 y.f9.f5 A1 c1 y.f9.f6 y.f9.f7 y.f9.f8 y.f9.f9.f0 y.f9.f9.f1 r W (Kd.C_below g0 hB) l0 (Kd.C_below g1 hB) l1 hr
end Go.Proofs.Ytobbocolmlljdaa.P
namespace Go.Proofs.Ytobbocolmlljdaa.P
open Go.RowKit Go.Proofs.YtobbocolmlljdaaW.PrintWords Go.Proofs.YtobbocolmlljdaaW.PrintLast Go.Proofs.YtobbocolmlljdaaW.PrintMore Go.Proofs.YtobbocolmlljdaaW.HB
set_option linter.unusedVariables false
set_option linter.unusedSimpArgs false
theorem IsStep.at {w : World} {rows : List (List Value)} (h : ∀ r ∈ rows, IsStep w r) (i : Nat) (hi : i < rows.length) : IsStep w rows[i] := h _ (List.getElem_mem hi)
theorem IsStep.len {w : World} {row : List Value} (h : IsStep w row) : row.length = 33 := by
  obtain ⟨x, hx⟩ := h
  obtain ⟨A, c, e, _, _⟩ := k41_open hx
  rw [e]; rfl
set_option maxRecDepth 100000 in
set_option maxHeartbeats 4000000 in
theorem steps.calls (w W : World) (A B : Option Addr) (ca cb : Nat) (rows : List (List Value)) (hA : Kd.C kRaw W A rows.length rows) (hca : rows.length ≤ ca) (hB : Kd.C kRaw W B rows.length rows) (hcb : rows.length ≤ cb)
    (hr : ∀ r ∈ rows, IsStep w r) (hb : Below w.heap.size w W) (hl : rows.length ≤ 4000000) :
    Calls Try.prog 6 #[.slice A rows.length ca, .slice B rows.length cb] W fun e W' => e = .returned (.bool true) ∧ Below W.heap.size W W' := by
  have HA := Aside0.mk hA
  have HB := Aside0.mk hB
  have HR := Aside0.mk hr
  have HW := Aside0.mk hb
  have HL := Aside0.mk hl
  clear hA hB hr hb
  go_enter Try.func6, Try.ntmps6
  go_wp2
  go_loopg [13] rows.length (fun kq v13 w' => ∃ k : Nat, v13 = .int .i64 k ∧ Aside0 (k + kq = rows.length) ∧ Aside0 (Below W.heap.size W w'))
  case atStart => exact ⟨0, rfl, ⟨by omega⟩, ⟨Below.refl _ _⟩⟩
  case round =>
    obtain ⟨k, rfl, HK, HB1⟩ := hrel
    by_cases b1 : k < rows.length
    · have q1 : (k : Int) < (rows.length : Int) := by omega
      have p1 : (0 : Int) ≤ (k : Int) := by omega
      obtain ⟨ad, e, hl33, -, hcell⟩ := raw_at HA.out k b1 b1
      cases e
      obtain ⟨bd, e, -, -, hdell⟩ := raw_at HB.out k b1 b1
      cases e
      have HC1 := Aside0.mk (Kd_cells hcell HB1.out)
      have HD1 := Aside0.mk (Kd_cells hdell HB1.out)
      have HS := Aside0.mk (IsStep.at HR.out k b1)
      have H33 := Aside0.mk hl33
      obtain ⟨row, hrow⟩ : ∃ row, rows[k] = row := ⟨_, rfl⟩
      rw [hrow] at HC1 HD1 HS H33
      clear hcell hdell hl33
      go_upto_region 6 with (fail)
      refine wp_region_C [9] (fun b W => (∀ j u, row[j]? = some u → W.cell? ((ad.add (k * 33)).add j) = some u) ∧ (∀ j u, row[j]? = some u → W.cell? ((bd.add (k * 33)).add j) = some u)) (by rfl) ?_ ?_
      · intro b hb
        exact ⟨Kd_cells HC1.out (Below.refl _ _).drew, Kd_cells HD1.out (Below.refl _ _).drew⟩
      intro hU
      refine wpAnyC_take (i := 0) (b := 9) (D := [2, 3, 8, 9]) (v := .slice (some ad) rows.length ca) rfl (by kernel_rfl) (by kernel_rfl) (by kernel_rfl) (by kernel_rfl) (by simp) (by simp) (by simp) (by kernel_rfl) (fun _ _ _ h => h) (Or.inl ⟨by rfl, fun W hW => by go_simp⟩) hU (fun hU => ?_)
      try simp only [Act.put, List.setIfInBounds_toArray, List.set_cons_zero, List.set_cons_succ]
      refine wpAnyC_take (i := 1) (b := 9) (D := [2, 3, 8, 9]) (v := .int .i64 k) rfl (by kernel_rfl) (by kernel_rfl) (by kernel_rfl) (by kernel_rfl) (by simp) (by simp) (by simp) (by kernel_rfl) (fun _ _ _ h => h) (Or.inl ⟨by rfl, fun W hW => by go_simp⟩) hU (fun hU => ?_)
      try simp only [Act.put, List.setIfInBounds_toArray, List.set_cons_zero, List.set_cons_succ]
      refine wpAnyC_take (i := 2) (b := 9) (D := [3, 8, 9]) (v := .pointer (some (ad.add (k * 33)))) rfl (by kernel_rfl) (by kernel_rfl) (by kernel_rfl) (by kernel_rfl) (by simp) (by simp) (by simp) (by kernel_rfl) (fun _ _ _ h => h) (Or.inl ⟨by rfl, fun W hW => by go_simp⟩) hU (fun hU => ?_)
      try simp only [Act.put, List.setIfInBounds_toArray, List.set_cons_zero, List.set_cons_succ]
      refine wpAnyC_take (i := 3) (b := 9) (D := [8, 9]) (v := .agg row.toArray) rfl (by kernel_rfl) (by kernel_rfl) (by kernel_rfl) (by kernel_rfl) (by simp) (by simp) (by simp) (by kernel_rfl) (fun _ _ _ h => h) (Or.inl ⟨by rfl, fun W hW => exec_load_row _ _ rfl (ad.add (k * 33)) rfl row _ hW.1 Try.underlying41 rfl (by rw [H33.out]; exact size41)⟩) hU (fun hU => ?_)
      try simp only [Act.put, List.setIfInBounds_toArray, List.set_cons_zero, List.set_cons_succ]
      refine wpAnyC_take (i := 4) (b := 9) (D := [6, 7, 8, 9]) (v := .slice (some bd) rows.length cb) rfl (by kernel_rfl) (by kernel_rfl) (by kernel_rfl) (by kernel_rfl) (by simp) (by simp) (by simp) (by kernel_rfl) (fun _ _ _ h => h) (Or.inl ⟨by rfl, fun W hW => by go_simp⟩) hU (fun hU => ?_)
      try simp only [Act.put, List.setIfInBounds_toArray, List.set_cons_zero, List.set_cons_succ]
      refine wpAnyC_take (i := 5) (b := 9) (D := [6, 7, 8, 9]) (v := .int .i64 k) rfl (by kernel_rfl) (by kernel_rfl) (by kernel_rfl) (by kernel_rfl) (by simp) (by simp) (by simp) (by kernel_rfl) (fun _ _ _ h => h) (Or.inl ⟨by rfl, fun W hW => by go_simp⟩) hU (fun hU => ?_)
      try simp only [Act.put, List.setIfInBounds_toArray, List.set_cons_zero, List.set_cons_succ]
      refine wpAnyC_take (i := 6) (b := 9) (D := [7, 8, 9]) (v := .pointer (some (bd.add (k * 33)))) rfl (by kernel_rfl) (by kernel_rfl) (by kernel_rfl) (by kernel_rfl) (by simp) (by simp) (by simp) (by kernel_rfl) (fun _ _ _ h => h) (Or.inl ⟨by rfl, fun W hW => by go_simp⟩) hU (fun hU => ?_)
      try simp only [Act.put, List.setIfInBounds_toArray, List.set_cons_zero, List.set_cons_succ]
      refine wpAnyC_take (i := 7) (b := 9) (D := [8, 9]) (v := .agg row.toArray) rfl (by kernel_rfl) (by kernel_rfl) (by kernel_rfl) (by kernel_rfl) (by simp) (by simp) (by simp) (by kernel_rfl) (fun _ _ _ h => h) (Or.inl ⟨by rfl, fun W hW => exec_load_row _ _ rfl (bd.add (k * 33)) rfl row _ hW.2 Try.underlying41 rfl (by rw [H33.out]; exact size41)⟩) hU (fun hU => ?_)
      try simp only [Act.put, List.setIfInBounds_toArray, List.set_cons_zero, List.set_cons_succ]
      refine wpAnyC_one (i := 8) (by kernel_rfl) rfl (fun K hK => ?_)
      rw [if_pos (by rfl)]
      go_simp
      refine (same.calls w _ row row HS.out HS.out (below_drew (below_step HW.out HB1.out))).mono ?_
      rintro e w2 ⟨rfl, hb⟩; have B2 := Aside0.mk hb; clear hb; have hsr := sameR_refl HS.out
      go_simp
      refine hK _ _ ?_ (fun hU => ?_)
      · intro c hc hL; exact ⟨Kd_cells HC1.out ((Below.refl _ _).drew.trans (B2.out.mono (by simp))), Kd_cells HD1.out ((Below.refl _ _).drew.trans (B2.out.mono (by simp)))⟩
      clear hK K
      try simp only [Act.put, List.setIfInBounds_toArray, List.set_cons_zero, List.set_cons_succ]
      refine wpAnyC_one (i := 9) (by kernel_rfl) rfl (fun K hK => ?_)
      go_simp
      refine hK _ _ ?_ (fun hU => ?_)
      · intro c hc hL
        have : c = 9 := by simpa using hc
        subst this; exact absurd hL (by simp)
      clear hK K
      try simp only [Act.put, List.setIfInBounds_toArray, List.set_cons_zero, List.set_cons_succ]
      refine wpAnyC_done (by kernel_rfl) ?_ _
      go_wp2
      go_roundg (rows.length - (k + 1))
      case rel => exact ⟨k + 1, by go_num, ⟨by omega⟩, ⟨below_step (below_drew HB1.out) B2.out⟩⟩
      case measure => have := HK.out; omega
    · go_wp2
      go_ret
      exact ⟨rfl, HB1.out⟩
end Go.Proofs.Ytobbocolmlljdaa.P
namespace Go.Proofs.Ytobbocolmlljdaa.P
open Go.RowKit Go.Proofs.YtobbocolmlljdaaW.PrintWords Go.Proofs.YtobbocolmlljdaaW.PrintLast Go.Proofs.YtobbocolmlljdaaW.PrintMore Go.Proofs.YtobbocolmlljdaaW.HB
set_option linter.unusedVariables false
set_option linter.unusedSimpArgs false
theorem mixS_sub {α : Type} : ∀ (n : Nat) (a b : List α) (s : Int), a.length + b.length ≤ n → a.Sublist (mixS a b s) ∧ b.Sublist (mixS a b s)
  | n, [], b, s, _ => by simp [mixS]
  | n, x :: a, [], s, _ => by simp [mixS]
  | 0, x :: a, y :: b, s, h => by simp at h
  | n + 1, x :: a, y :: b, s, h => by
    simp only [List.length_cons] at h
    unfold mixS
    split
    · have := mixS_sub n a (y :: b) (nx s) (by simp only [List.length_cons]; omega)
      exact ⟨this.1.cons_cons _, this.2.cons _⟩
    · have := mixS_sub n (x :: a) b (nx s) (by simp only [List.length_cons]; omega)
      exact ⟨this.1.cons _, this.2.cons_cons _⟩
theorem mixS_mem {α : Type} (r : α) : ∀ (n : Nat) (a b : List α) (s : Int), a.length + b.length ≤ n → r ∈ mixS a b s → r ∈ a ∨ r ∈ b
  | n, [], b, s, _ => by simp [mixS]
  | n, x :: a, [], s, _ => by simp [mixS]
  | 0, x :: a, y :: b, s, h => by simp at h
  | n + 1, x :: a, y :: b, s, h => by
    simp only [List.length_cons] at h
    unfold mixS
    split
    · intro hr
      rcases List.mem_cons.1 hr with rfl | hr
      · exact .inl (List.mem_cons_self ..)
      · rcases mixS_mem r n a (y :: b) (nx s) (by simp only [List.length_cons]; omega) hr with h | h
        · exact .inl (List.mem_cons_of_mem _ h)
        · exact .inr h
    · intro hr
      rcases List.mem_cons.1 hr with rfl | hr
      · exact .inr (List.mem_cons_self ..)
      · rcases mixS_mem r n (x :: a) b (nx s) (by simp only [List.length_cons]; omega) hr with h | h
        · exact .inl h
        · exact .inr (List.mem_cons_of_mem _ h)
def gs {α : Type} (same : α → α → Bool) (z : α) (a : List α) (i : Nat) (s : α) : Nat := if i < a.length ∧ same s (a.getD i z) = true then i + 1 else i
def gr {α : Type} (same : α → α → Bool) (z : α) (a m : List α) : Nat := m.foldl (gs same z a) 0
theorem gs_le {α : Type} (same : α → α → Bool) (z : α) (a : List α) (i : Nat) (s : α) (h : i ≤ a.length) : i ≤ gs same z a i s ∧ gs same z a i s ≤ a.length := by
  unfold gs
  split
  · rename_i h'; exact ⟨by omega, by omega⟩
  · exact ⟨by omega, h⟩
theorem gr_all {α : Type} (same : α → α → Bool) (z : α) (a : List α) (hrefl : ∀ x ∈ a, same x x = true) : ∀ (m : List α) (i j : Nat), j ≤ i → i ≤ a.length → (a.drop j).Sublist m → m.foldl (gs same z a) i = a.length
  | [], i, j, hj, hi, h => by
    have h0 : a.drop j = [] := List.sublist_nil.1 h
    have := List.drop_eq_nil_iff.1 h0
    simp only [List.foldl_nil]; omega
  | s :: m, i, j, hj, hi, h => by
    have hg := gs_le same z a i s hi
    rw [List.foldl_cons]
    rcases List.sublist_cons_iff.1 h with h | ⟨r, hr, h⟩
    · exact gr_all same z a hrefl m _ j (by omega) hg.2 h
    · have hjl : j < a.length := by
        rcases Nat.lt_or_ge j a.length with h' | h'
        · exact h'
        · rw [List.drop_eq_nil_of_le h'] at hr; cases hr
      rw [List.drop_eq_getElem_cons hjl] at hr
      injection hr with hr1 hr2
      rw [← hr2] at h
      refine gr_all same z a hrefl m _ (j + 1) ?_ hg.2 h
      rcases Nat.lt_or_ge j i with h' | h'
      · omega
      · obtain rfl : i = j := by omega
        have hs : same s (a.getD i z) = true := by
          rw [List.getD_eq_getElem?_getD, List.getElem?_eq_getElem hjl, Option.getD_some, ← hr1]
          exact hrefl _ (List.getElem_mem hjl)
        unfold gs
        rw [if_pos ⟨hjl, hs⟩]
        omega
theorem gr_snoc {α : Type} (same : α → α → Bool) (z : α) (a m : List α) (k : Nat) (hk : k < m.length) : gr same z a (m.take (k + 1)) = gs same z a (gr same z a (m.take k)) m[k] := by
  unfold gr
  rw [List.take_succ_eq_append_getElem hk, List.foldl_append]
  rfl
theorem foldl_gs_le {α : Type} (same : α → α → Bool) (z : α) (a : List α) : ∀ (m : List α) (i : Nat), i ≤ a.length → m.foldl (gs same z a) i ≤ a.length
  | [], _, h => h
  | s :: m, i, h => foldl_gs_le same z a m _ (gs_le same z a i s h).2
theorem gr_le {α : Type} (same : α → α → Bool) (z : α) (a m : List α) : gr same z a m ≤ a.length := foldl_gs_le same z a m 0 (Nat.zero_le _)
theorem raw_of {w : World} {A : Option Addr} {n : Nat} {xs : List S41} (h : Kd.C k41 w A n xs) : ∃ rows : List (List Value), rows.length = xs.length ∧ Kd.C kRaw w A n rows ∧ ∀ r ∈ rows, IsStep w r := by
  obtain ⟨h1, h2, h3⟩ := h
  by_cases hn : 0 < n
  · obtain ⟨ad, rfl, hc⟩ := h3 hn
    have hch : ∀ j : Fin xs.length, ∃ c : List Value, c.length = 33 ∧ k41.K w xs[j] c ∧ ∀ i u, c[i]? = some u → w.cell? ((ad.add (j * 33)).add i) = some u := fun j => by
      obtain ⟨c, e1, e2, e3⟩ := hc j xs[j] (List.getElem?_eq_getElem j.2)
      exact ⟨c, e1, e2, fun i u hu => by rw [Addr.add_add]; exact e3 i u hu⟩
    refine ⟨List.ofFn (fun j => Classical.choose (hch j)), by simp, ⟨by simp [h1], h2, fun _ => ⟨ad, rfl, fun j p hj => ?_⟩⟩, fun r hr => ?_⟩
    · have hlt : j < xs.length := by have := (List.getElem?_eq_some_iff.1 hj).1; simpa using this
      have hp : p = Classical.choose (hch ⟨j, hlt⟩) := by
        rw [List.getElem?_eq_getElem (by simpa using hlt)] at hj
        simpa using (Option.some.inj hj).symm
      obtain ⟨e1, e2, e3⟩ := Classical.choose_spec (hch ⟨j, hlt⟩)
      rw [← hp] at e1 e2 e3
      refine ⟨p, e1, ⟨rfl, e1, fun u hu => ?_⟩, fun i u hu => ?_⟩
      · obtain ⟨A28, c28, e, _, _⟩ := k41_open e2
        rw [e] at hu
        simp only [List.mem_cons, List.not_mem_nil, or_false] at hu
        repeat' (rcases hu with rfl | hu <;> first | rfl | skip)
        all_goals (subst hu; rfl)
      · have := e3 i u hu
        rwa [Addr.add_add] at this
    · obtain ⟨j, hj⟩ := List.mem_ofFn.1 hr
      exact ⟨xs[j], by rw [← hj]; exact (Classical.choose_spec (hch j)).2.1⟩
  · obtain rfl : xs = [] := List.eq_nil_of_length_eq_zero (by omega)
    exact ⟨[], rfl, ⟨by simpa using h1, h2, fun h => absurd h hn⟩, fun r hr => by cases hr⟩
end Go.Proofs.Ytobbocolmlljdaa.P
namespace Go.Proofs.Ytobbocolmlljdaa.P
open Go.RowKit Go.Proofs.YtobbocolmlljdaaW.PrintWords Go.Proofs.YtobbocolmlljdaaW.PrintLast Go.Proofs.YtobbocolmlljdaaW.PrintMore Go.Proofs.YtobbocolmlljdaaW.HB
set_option linter.unusedVariables false
set_option linter.unusedSimpArgs false
def rowR : List Value := [(.int .i64 14), (.int .i64 0), (.int .i64 0), (.int .i64 0), (.int .i64 0), (.int .i64 0), (.int .u64 0), (.int .i64 0), (.int .i64 0), (.int .i64 0), (.int .i64 0), (.int .i64 0), (.int .i64 0), (.int .i64 0), (.int .i64 0), (.int .i64 0), (.int .i64 0), (.string ⟨#[]⟩), (.int .i64 0), (.int .i64 0), (.string ⟨#[]⟩), (.string ⟨#[]⟩), (.int .i64 0), (.int .i64 0), (.int .i64 0), (.string ⟨#[]⟩), (.bool false), (.int .i64 0), (.slice none 0 0), (.string ⟨#[]⟩), (.int .i64 0), (.int .i64 0), (.int .i64 0)]
theorem rowR_ok : rowR.length = 33 ∧ ∀ u ∈ rowR, u.oneCell' = true := ⟨rfl, by simp [rowR, Value.oneCell']⟩
set_option maxRecDepth 100000 in
set_option maxHeartbeats 4000000 in
theorem rounds.calls (n : Nat) (hn : n ≤ 1000) (w : World) : Calls Try.prog 23 #[.int .i64 n] w fun e w' => ∃ v, e = .returned v ∧ Kd.R kRaw 41 w' w.heap.size (fun _ => True) v (List.replicate n rowR) ∧ Below w.heap.size w w' := by
  have HN := Aside0.mk hn
  have R0 := Aside0.mk (Kd.R_nil kRaw 41 w w.heap.size (fun _ => True))
  have B0 := Aside0.mk (Below.refl w.heap.size w)
  go_enter Try.func23, Try.ntmps23
  go_wp2
  go_loopw [3, 5] (fun v3 v5 w' => ∃ (x : Int) (k : Nat), v5 = .int .i64 x ∧ Aside0 (x = k ∧ k ≤ n) ∧ Aside0 (Kd.R kRaw 41 w' w.heap.size (fun _ => True) v3 (List.replicate k rowR)) ∧ Aside0 (Below w.heap.size w w')) (fun _ v5 _ => n - (intOf v5).toNat)
  case atStart => exact ⟨0, 0, rfl, ⟨by omega⟩, R0, B0⟩
  case round =>
    clear R0 B0
    obtain ⟨x, k, rfl, hk, HR, HB⟩ := hrel
    by_cases b1 : x < (n : Int)
    · have q1 := eq_true b1
      have hx := hk.out
      have hw : wrap64 (x + 1) = x + 1 := by unfold wrap64; omega
      have hn1 : x + 1 ≤ 1001 := by omega
      have hx0 : 0 ≤ x := by omega
      replace hw := Aside0.mk hw
      go_wp2_with (first
        | ((with_reducible refine gate_builtin (b := .append) (xs := #[.tmp 7, .tmp 9]) rfl ?_); refine Kd.R_append kRaw (w0 := w) w.heap.size rfl (.tmp 7) (.tmp 9) 22 41 (.agg #[(.int .i64 0), (.int .i64 0), (.int .i64 0), (.int .i64 0), (.int .i64 0), (.int .i64 0), (.int .u64 0), (.int .i64 0), (.int .i64 0), (.int .i64 0), (.int .i64 0), (.int .i64 0), (.int .i64 0), (.int .i64 0), (.int .i64 0), (.int .i64 0), (.int .i64 0), (.string ⟨#[]⟩), (.int .i64 0), (.int .i64 0), (.string ⟨#[]⟩), (.string ⟨#[]⟩), (.int .i64 0), (.int .i64 0), (.int .i64 0), (.string ⟨#[]⟩), (.bool false), (.int .i64 0), (.slice none 0 0), (.string ⟨#[]⟩), (.int .i64 0), (.int .i64 0), (.int .i64 0)]) 320 rfl Try.underlying22 info41 rfl (by decide) (by omega) _ (List.replicate k rowR) rowR rowR (fun _ => True) (fun _ => False) rfl rfl ⟨rfl, rowR_ok.1, rowR_ok.2⟩ (fun _ h => h.elim) (fun _ _ => trivial) HR.out HB.out HB.out.size (by rw [List.length_replicate]; have := HN.out; have := hk.out; omega) ?_; intro v1 w3 hr hb hg hat; have R3 := Aside0.mk hr; have B3 := Aside0.mk hb; clear hr hb hg hat))
      have hkk := hk.out
      refine ⟨⟨_, k + 1, rfl, ⟨by omega, by omega⟩, ⟨?_⟩, B3⟩, by simp only [intOf]; omega⟩
      rw [List.replicate_succ']
      exact R3.out
    · have q1 := eq_false b1
      go_wp2
      go_ret
      have hkn : k = n := by have := hk.out; omega
      exact ⟨_, rfl, hkn ▸ HR.out, HB.out⟩
end Go.Proofs.Ytobbocolmlljdaa.P
namespace Go.Proofs.Ytobbocolmlljdaa.P
open Go.RowKit Go.Proofs.YtobbocolmlljdaaW.PrintWords Go.Proofs.YtobbocolmlljdaaW.PrintLast Go.Proofs.YtobbocolmlljdaaW.PrintMore Go.Proofs.YtobbocolmlljdaaW.HB
set_option linter.unusedVariables false
set_option linter.unusedSimpArgs false
def slices_Clone_I.f (l0 : List (Int)) : Option (List (Int)) := if l0.length < 17592186044416 then some l0 else none
set_option maxHeartbeats 1000000 in
theorem slices_Clone_I.calls (A0 : Option Addr) (c0 : Nat) (l0 : List (Int)) (r : List (Int)) (w : World) (hr0 : Kd.C (Kd.int .i64) w A0 l0.length l0) (hc0 : l0.length ≤ c0) (h : slices_Clone_I.f l0 = some r) :
    Calls Try.prog 57 #[.slice A0 l0.length c0] w fun e w' => ∃ v0_ : Value, e = .returned (v0_) ∧ Kd.R (Kd.int .i64) 3 w' w.heap.size (fun _ => True) v0_ r ∧ Below w.heap.size w w' := by
  have HR0 := Aside0.mk hr0
  have HC0 := Aside0.mk hc0
  clear hr0 hc0
  have HB := Aside0.mk (Below.refl w.heap.size w)
  unfold slices_Clone_I.f at h
  split at h <;> simp at h
  subst h
  rename_i hl
  have HL := Aside0.mk hl
  clear hl
  have hnil := fun (W : World) => Lib.run_eql_slice_nil (P := Try.prog) W 45 3 A0 l0.length c0 0 0 Try.underlying45
  cases A0 with
  | none =>
    go_enter Try.func57, Try.ntmps57
    go_wp2
    go_ret
    have h0 : l0 = [] := by
      cases l0 with
      | nil => rfl
      | cons x l =>
        obtain ⟨ad, e, _⟩ := HR0.out.2.2 (by simp)
        cases e
    subst h0
    exact ⟨_, rfl, Kd.R_nil _ _ _ _ _, HB.out⟩
  | some a =>
    have HE := Aside0.mk (R_empty (Kd.int .i64) 3 w w.heap.size (fun _ => True) (Nat.le_refl _) trivial)
    go_enter Try.func57, Try.ntmps57
    go_wp2_with (first | (at_builtin; refine Kd.R_append_rows (Kd.int .i64) (w0 := w) w.heap.size rfl (.tmp 5) (.tmp 6) 45 3 ((.int .i64 0)) 8 rfl Try.underlying45 info3 rfl (by decide) (by omega) _ ([] : List (Int)) l0 _ _ _ (fun _ => True) (fun _ => False) rfl rfl HE.out (Kd.C_below HR0.out (below_alloc HB.out _)) (fun _ _ h => h) (fun _ h => h.elim) (fun _ _ => trivial) (below_alloc HB.out _) (by simp) (by have := HL.out; simp; omega) ?_; intro v125 w3 ho hb hg hat; have HO := Aside0.mk ho; have HB3 := Aside0.mk hb; clear ho hb hg hat))
    go_ret
    exact ⟨_, rfl, HO.out, HB3.out⟩
end Go.Proofs.Ytobbocolmlljdaa.P
namespace Go.Proofs.Ytobbocolmlljdaa.P
open Go.RowKit Go.Proofs.YtobbocolmlljdaaW.PrintWords Go.Proofs.YtobbocolmlljdaaW.PrintLast Go.Proofs.YtobbocolmlljdaaW.PrintMore Go.Proofs.YtobbocolmlljdaaW.HB
set_option linter.unusedVariables false
set_option linter.unusedSimpArgs false
theorem rd_at_I (l : List Int) (i : Nat) (h : i < l.length) : rd l i = l[i] := by
  simp [rd, List.getD_eq_getElem?_getD, List.getElem?_eq_getElem h]
set_option maxHeartbeats 1000000 in
theorem slices_IndexFunc_I.calls (fid : Nat) (caps : Array Value) (p : (Int) → Bool) (A0 : Option Addr) (c0 : Nat) (l0 : List (Int)) (w : World) (hr0 : Kd.C (Kd.int .i64) w A0 l0.length l0) (hc0 : l0.length ≤ c0)
    (eg : ∀ args w, (callFunc fid args).run Try.prog w = .ok (.enter fid args) w)
    (hp : ∀ x ∈ l0, ∀ w1, Below w.heap.size w w1 → Calls Try.prog fid (#[.int .i64 x] ++ caps) w1 fun e w' => e = .returned (.bool (p x)) ∧ Below w1.heap.size w1 w') :
    Calls Try.prog 67 #[.slice A0 l0.length c0, .func (.func fid) #[] caps] w fun e w' => e = .returned (.int .i64 (idxOf p l0)) ∧ Below w.heap.size w w' := by
  have HR0 := Aside0.mk hr0
  have HC0 := Aside0.mk hc0
  have HP := Aside0.mk hp
  clear hr0 hc0 hp
  have HB := Aside0.mk (Below.refl w.heap.size w)
  go_enter Try.func67, Try.ntmps67
  go_wp2
  go_loopw [8] (fun v8 w' => ∃ i : Nat, v8 = .int .i64 i ∧ Aside0 (i ≤ l0.length ∧ ∀ j, (hj : j < l0.length) → j < i → p l0[j] = false) ∧ Aside0 (Below w.heap.size w w')) (fun v _ => l0.length - (intOf v).toNat)
  case atStart => exact ⟨0, rfl, ⟨by omega, by intros; omega⟩, HB⟩
  case round =>
    obtain ⟨i, rfl, HI, HB1⟩ := hrel
    clear HB
    have hlen := HR0.out.2.1
    by_cases hlt : i < l0.length
    · obtain ⟨ad, e1, hx0⟩ := Kd.at_int HR0.out i (by omega) (by omega)
      cases e1
      replace hx0 := (HB1.out.cell (World.block_lt_of_cell? w _ hx0)).trans hx0
      simp only [Int.toNat_natCast] at hx0
      have hrd := Aside0.mk (rd_at_I l0 i hlt)
      have hmem : rd l0 i ∈ l0 := by rw [hrd.out]; exact List.getElem_mem _
      have HCALL := Aside0.mk (HP.out (rd l0 i) hmem)
      clear hmem
      cases hpx : p (rd l0 i) with
      | true =>
        rw [hpx] at HCALL
        have HX := Aside0.mk hpx
        clear hpx
        go_wp2
        refine (HCALL.out _ HB1.out).mono ?_
        rintro e w2 ⟨rfl, hb2⟩
        have HB2 := Aside0.mk (below_then HB1.out HB1.out.size hb2)
        clear hb2
        go_wp2
        go_ret
        refine ⟨?_, HB2.out⟩
        rw [idxOf_hit p l0 i hlt (by rw [← hrd.out]; exact HX.out) (fun j hj h => HI.out.2 j hj h)]; rfl
      | false =>
        rw [hpx] at HCALL
        have HX := Aside0.mk hpx
        clear hpx
        go_wp2
        refine (HCALL.out _ HB1.out).mono ?_
        rintro e w2 ⟨rfl, hb2⟩
        have HB2 := Aside0.mk (below_then HB1.out HB1.out.size hb2)
        clear hb2
        go_wp2
        go_roundw
        case rel =>
          refine ⟨i + 1, by go_num, ⟨by omega, fun j hj h => ?_⟩, HB2⟩
          rcases Nat.lt_succ_iff_lt_or_eq.1 h with h | rfl
          · exact HI.out.2 j hj h
          · rw [← hrd.out]; exact HX.out
        case measure => simp [intOf]; omega
    · go_wp2
      go_ret
      refine ⟨?_, HB1.out⟩
      rw [idxOf_none p l0 (fun j hj => HI.out.2 j hj (by omega))]; rfl
theorem slices_ContainsFunc_I.calls (fid : Nat) (caps : Array Value) (p : (Int) → Bool) (A0 : Option Addr) (c0 : Nat) (l0 : List (Int)) (w : World) (hr0 : Kd.C (Kd.int .i64) w A0 l0.length l0) (hc0 : l0.length ≤ c0)
    (eg : ∀ args w, (callFunc fid args).run Try.prog w = .ok (.enter fid args) w)
    (hp : ∀ x ∈ l0, ∀ w1, Below w.heap.size w w1 → Calls Try.prog fid (#[.int .i64 x] ++ caps) w1 fun e w' => e = .returned (.bool (p x)) ∧ Below w1.heap.size w1 w') :
    Calls Try.prog 63 #[.slice A0 l0.length c0, .func (.func fid) #[] caps] w fun e w' => e = .returned (.bool (l0.any p)) ∧ Below w.heap.size w w' := by
  have HR0 := Aside0.mk hr0
  have HC0 := Aside0.mk hc0
  have HP := Aside0.mk hp
  clear hr0 hc0 hp
  rcases idxOf_cases p l0 with ⟨hi, hall⟩ | ⟨i0, hi, hi1, hi2, hi3⟩
  · have HI := Aside0.mk hi
    have HA := Aside0.mk (show l0.any p = false from by simpa using hall)
    clear hi hall
    go_enter Try.func63, Try.ntmps63
    go_wp2_with (first | (go_at_call 67; refine (slices_IndexFunc_I.calls fid caps p A0 c0 l0 _ HR0.out HC0.out eg HP.out).mono ?_; rintro e w1 ⟨rfl, hb⟩; rw [HI.out]; have HB1 := Aside0.mk hb; clear hb))
    go_ret
    exact ⟨by rw [HA.out]; rfl, HB1.out⟩
  · have HI := Aside0.mk hi
    have HA := Aside0.mk (show l0.any p = true from by rw [List.any_eq_true]; exact ⟨_, List.getElem_mem hi1, hi2⟩)
    clear hi hi1 hi2 hi3
    go_enter Try.func63, Try.ntmps63
    go_wp2_with (first | (go_at_call 67; refine (slices_IndexFunc_I.calls fid caps p A0 c0 l0 _ HR0.out HC0.out eg HP.out).mono ?_; rintro e w1 ⟨rfl, hb⟩; rw [HI.out]; have HB1 := Aside0.mk hb; clear hb))
    go_ret
    exact ⟨by rw [HA.out]; simp, HB1.out⟩
end Go.Proofs.Ytobbocolmlljdaa.P
namespace Go.Proofs.Ytobbocolmlljdaa.P
open Go.RowKit Go.Proofs.YtobbocolmlljdaaW.PrintWords Go.Proofs.YtobbocolmlljdaaW.PrintLast Go.Proofs.YtobbocolmlljdaaW.PrintMore Go.Proofs.YtobbocolmlljdaaW.HB
set_option linter.unusedVariables false
set_option linter.unusedSimpArgs false
def badH (h : Int) : Bool := decide (h < 0 ∨ h > 7)
def hostedB (l : List Int) : Bool := decide (1 ≤ l.length ∧ l.length ≤ 8) && !l.any badH
def maps_hosted.f (l : List Int) : Option Bool := some (hostedB l)
theorem hosted_1.calls (x : Int) (w : World) : Calls Try.prog 64 #[.int .i64 x] w fun e w' => e = .returned (.bool (badH x)) ∧ Below w.heap.size w w' := by
  by_cases h1 : x < 0
  · have hb : badH x = true := decide_eq_true (.inl h1)
    rw [hb]
    have q1 := eq_true h1
    go_enter Try.func64, Try.ntmps64
    go_wp2
    go_ret
    exact ⟨rfl, Below.refl _ _⟩
  · have q1 := eq_false h1
    by_cases h2 : x > 7
    · have hb : badH x = true := decide_eq_true (.inr h2)
      rw [hb]
      have q2 : ((7 : Int) < x) = True := eq_true h2
      go_enter Try.func64, Try.ntmps64
      go_wp2
      go_ret
      exact ⟨rfl, Below.refl _ _⟩
    · have hb : badH x = false := decide_eq_false (fun h => h.elim h1 h2)
      rw [hb]
      have q2 : ((7 : Int) < x) = False := eq_false h2
      go_enter Try.func64, Try.ntmps64
      go_wp2
      go_ret
      exact ⟨rfl, Below.refl _ _⟩
theorem maps_hosted.calls (A0 : Option Addr) (c0 : Nat) (l0 : List Int) (r : Bool) (w : World) (hr0 : Kd.C (Kd.int .i64) w A0 l0.length l0) (hc0 : l0.length ≤ c0) (h : maps_hosted.f l0 = some r) :
    Calls Try.prog 56 #[.slice A0 l0.length c0] w fun e w' => e = .returned (.bool r) ∧ Below w.heap.size w w' := by
  obtain rfl := Option.some.inj h
  clear h
  have HC := Aside0.mk (slices_ContainsFunc_I.calls 64 #[] badH A0 c0 l0 w hr0 hc0 (Go.Proofs.enters_of Try.func64 (by kernel_rfl) rfl) (fun x _ w1 _ => hosted_1.calls x w1))
  by_cases h1 : (1 : Int) ≤ (l0.length : Int)
  · by_cases h2 : (l0.length : Int) ≤ 8
    · have hb : hostedB l0 = !l0.any badH := by unfold hostedB; rw [decide_eq_true (by omega), Bool.true_and]
      rw [hb]
      generalize l0.any badH = t at *
      have q1 : (((l0.length : Nat) : Int) < 1) = False := eq_false (by omega)
      go_enter Try.func56, Try.ntmps56
      go_wp2_with (go_at_call 63; refine HC.out.mono ?_; rintro e w1 ⟨rfl, hW⟩)
      go_ret
      exact ⟨rfl, hW⟩
    · have hb : hostedB l0 = false := by unfold hostedB; rw [decide_eq_false (by omega), Bool.false_and]
      rw [hb]
      go_enter Try.func56, Try.ntmps56
      go_wp2
      go_ret
      exact ⟨rfl, Below.refl _ _⟩
  · have hb : hostedB l0 = false := by unfold hostedB; rw [decide_eq_false (by omega), Bool.false_and]
    rw [hb]
    go_enter Try.func56, Try.ntmps56
    go_wp2
    go_ret
    exact ⟨rfl, Below.refl _ _⟩
end Go.Proofs.Ytobbocolmlljdaa.P
namespace Go.Proofs.Ytobbocolmlljdaa.P
open Go.RowKit Go.Proofs.YtobbocolmlljdaaW.PrintWords Go.Proofs.YtobbocolmlljdaaW.PrintLast Go.Proofs.YtobbocolmlljdaaW.PrintMore
attribute [local go_sem] max2_int min2_int max_two min_two max_three min_three max_four min_four
set_option linter.unusedVariables false
set_option linter.unusedSimpArgs false
def maps_First.l0 : Nat → Int → Int → Int → List Int → List (S114) → Option (Int × List Int × (List (S114)) × (List (S29)) × (List (S37)))
  | 0, _, _, _, _, _ => none
  | k + 1, x12, x13, x146000, x146001, x146002 => if x13 < x12 then (if x146002.length < 4398046511104 then (maps_First.l0 k x12 (wrap64 (x13 + 1)) x146000 x146001 (x146002 ++ [(⟨0, false, 65536, 0⟩ : S114)])) else (none)) else (some (x146000, x146001, x146002, ([] : List (S29)), ([] : List (S37))))
def maps_First.f (k : Nat) (l0 : List Int) : Option (Int × List Int × (List (S114)) × (List (S29)) × (List (S37))) := (maps_hosted.f l0).bind fun t141 => (if t141 = true then ((slices_Clone_I.f l0).bind fun t142 => (maps_First.l0 k (l0.length : Int) 0 0 t142 ([] : List (S114)))) else (some (0, ([] : List Int), ([] : List (S114)), ([] : List (S29)), ([] : List (S37)))))
set_option maxHeartbeats 8000000 in
set_option maxRecDepth 100000 in
theorem maps_First.calls (k : Nat) (A0 : Option Addr) (c0 : Nat) (l0 : List Int) (r1 : Int) (r2 : List Int) (r3 : List (S114)) (r4 : List (S29)) (r5 : List (S37)) (w : World) (hr0 : Kd.C (Kd.int .i64) w A0 l0.length l0) (hc0 : l0.length ≤ c0) (h : maps_First.f k l0 = some (r1, r2, r3, r4, r5)) :
    Calls Try.prog 46 #[.slice A0 l0.length c0] w fun e w' => ∃ v1_ v2_ v3_ v4_ : Value, e = .returned (.agg #[.int .i64 r1, v1_, v2_, v3_, v4_]) ∧ Kd.R (Kd.int .i64) 3 w' w.heap.size (fun _ => True) v1_ r2 ∧ Kd.R k114 114 w' w.heap.size (fun _ => True) v2_ r3 ∧ Kd.R k29 29 w' w.heap.size (fun _ => True) v3_ r4 ∧ Kd.R k37 37 w' w.heap.size (fun _ => True) v4_ r5 ∧ Below w.heap.size w w' := by
  have hu93 := Try.underlying93
  have hu114 := Try.underlying114
  have HR0 := Aside0.mk hr0
  have HC0 := Aside0.mk hc0
  clear hr0 hc0
  have HB := Aside0.mk (Below.refl w.heap.size w)
  have H : ((maps_hosted.f l0).bind fun t141 => (if t141 = true then ((slices_Clone_I.f l0).bind fun t142 => (maps_First.l0 k (l0.length : Int) 0 0 t142 ([] : List (S114)))) else (some (0, ([] : List Int), ([] : List (S114)), ([] : List (S29)), ([] : List (S37)))))) = some (r1, r2, r3, r4, r5) := h
  clear h
  replace H := Option.bind_eq_some_iff.mp H
  obtain ⟨t141, A20, H⟩ := H
  replace H : (if t141 = true then ((slices_Clone_I.f l0).bind fun t142 => (maps_First.l0 k (l0.length : Int) 0 0 t142 ([] : List (S114)))) else (some (0, ([] : List Int), ([] : List (S114)), ([] : List (S29)), ([] : List (S37))))) = some (r1, r2, r3, r4, r5) := H
  have A2 := Aside0.mk A20
  clear A20
  by_cases c3 : t141 = true
  · subst c3
    have H1 : ((slices_Clone_I.f l0).bind fun t142 => (maps_First.l0 k (l0.length : Int) 0 0 t142 ([] : List (S114)))) = some (r1, r2, r3, r4, r5) := by rw [if_pos rfl] at H; exact H
    clear H
    have H := H1
    clear H1
    replace H := Option.bind_eq_some_iff.mp H
    obtain ⟨t142, A40, H⟩ := H
    replace H : (maps_First.l0 k (l0.length : Int) 0 0 t142 ([] : List (S114))) = some (r1, r2, r3, r4, r5) := H
    have A4 := Aside0.mk A40
    clear A40
    have H' := Aside0.mk H
    clear H
    go_enter Try.func46, Try.ntmps46
    go_wp2_with (first | ((with_reducible refine gate_dst (N := 2) rfl ?_); refine box_event ?hg (N := 2) ?hd (cs := #[.int .i64 0, .slice none 0 0, .slice none 0 0, .slice none 0 0, .slice none 0 0]) (t := 93) ?hr ?_; (case hd => rfl); (case hg => rfl); (case hr => first | (go_simp; done) | (go_simp; rfl)); intro gb140 hg w5 hbox hb; have n0_ := Aside0.mk (below_step (by repeat (first | (with_reducible first | exact HB.out | apply below_alloc | apply pw_below_drewN | apply below_drew1) | exact HB.out)) hb); have n1_ := Aside0.mk (hbox); have n2_ := Aside0.mk ((by rw [hg]; exact (below_size (by repeat (first | (with_reducible first | exact HB.out | apply below_alloc | apply pw_below_drewN | apply below_drew1) | exact HB.out))) : w.heap.size ≤ gb140)); have n3_ := Aside0.mk ((by rw [hg]; exact (below_size (by repeat (first | (with_reducible first | exact HB.out | apply below_alloc | apply pw_below_drewN | apply below_drew1) | exact HB.out))) : w.heap.size ≤ gb140)); clear HB; have HB := n0_; have BK140 := n1_; have GW140 := n2_; have GE140 := n3_; clear n0_ n1_ n2_ n3_; clear hb hbox hg) | ((with_reducible refine gate_callee (f := 56) rfl ?_); refine goesL_ (some 5) rfl rfl Try.func56 (by kernel_rfl) rfl #[.slice A0 l0.length c0] rfl (by (try simp only [List.map_toArray, List.map_cons, List.map_nil]); first | done | rfl | (simp only [List.length_drop, List.length_take]; rfl)) ?_; (with_reducible refine (maps_hosted.calls _ _ l0 true _ ?side1 ?side2 A2.out).mono ?_); (case side1 => repeat (first | exact (Kd.C_below HR0.out HB.out) | (with_reducible refine Kd.C_alloc ?_ _) | (with_reducible refine Kd.C_drewN ?_ _) | (with_reducible refine Kd.C_drew ?_))); (case side2 => exact HC0.out); rintro e w6 ⟨rfl, hb⟩; refine ⟨_, rfl, ?_⟩; have n0_ := Aside0.mk (blk_below (g := gb140) (o := .cells #[.int .i64 0, .slice none 0 0, .slice none 0 0, .slice none 0 0, .slice none 0 0] 93 (0, 0)) (by (with_reducible repeat (first | refine blk_drewN ?_ _ | refine blk_drew ?_ | refine blk_alloc ?_ _)); exact BK140.out) hb); have n1_ := Aside0.mk (below_step (by repeat (first | (with_reducible first | exact HB.out | apply below_alloc | apply pw_below_drewN | apply below_drew1 | refine below_set ?_ GE140.out) | exact HB.out)) hb); clear BK140; clear HB; have BK140 := n0_; have HB := n1_; clear n0_ n1_; (try clear hb); (try clear hb2); (try clear hk); (try clear hi)) | ((with_reducible refine gate_callee (f := 57) rfl ?_); refine goesL_ (some 9) rfl rfl Try.func57 (by kernel_rfl) rfl #[.slice A0 l0.length c0] rfl (by (try simp only [List.map_toArray, List.map_cons, List.map_nil]); first | done | rfl | (simp only [List.length_drop, List.length_take]; rfl)) ?_; (with_reducible refine (slices_Clone_I.calls _ _ l0 t142 _ ?side1 ?side2 A4.out).mono ?_); (case side1 => repeat (first | exact (Kd.C_below HR0.out HB.out) | (with_reducible refine Kd.C_alloc ?_ _) | (with_reducible refine Kd.C_drewN ?_ _) | (with_reducible refine Kd.C_drew ?_))); (case side2 => exact HC0.out); rintro e w7 ⟨v143, rfl, ho0, hb⟩; refine ⟨_, rfl, ?_⟩; have n0_ := Aside0.mk (Kd.R_lower ho0 (below_size (by repeat (first | (with_reducible first | exact HB.out | apply below_alloc | apply pw_below_drewN | apply below_drew1 | refine below_set ?_ GE140.out) | exact HB.out)))); have n1_ := Aside0.mk (blk_below (g := gb140) (o := .cells #[.int .i64 0, .slice none 0 0, .slice none 0 0, .slice none 0 0, .slice none 0 0] 93 (0, 0)) (by (with_reducible repeat (first | refine blk_drewN ?_ _ | refine blk_drew ?_ | refine blk_alloc ?_ _)); exact BK140.out) hb); have n2_ := Aside0.mk (below_step (by repeat (first | (with_reducible first | exact HB.out | apply below_alloc | apply pw_below_drewN | apply below_drew1 | refine below_set ?_ GE140.out) | exact HB.out)) hb); clear BK140; clear HB; have HO144 := n0_; have BK140 := n1_; have HB := n2_; clear n0_ n1_ n2_; (try clear hb); (try clear hb2); (try clear hk); (try clear hi); (try clear ho0); obtain ⟨Ao8, co8, eo8⟩ := Kd.R_slice HO144.out; subst eo8) | ((with_reducible refine gate_dst (N := 3) rfl ?_); refine box_event ?hg (N := 3) ?hd (cs := #[.int .i64 0, .slice none 0 0, .slice none 0 0, .slice none 0 0, .slice none 0 0]) (t := 93) ?hr ?_; (case hd => rfl); (case hg => rfl); (case hr => first | (go_simp; done) | (go_simp; rfl)); intro gb145 hg w9 hbox hb; have n0_ := Aside0.mk (Kd.R_below (by (with_reducible repeat (first | apply Kd.R_alloc | apply Kd.R_drewN | apply Kd.R_drew)); exact HO144.out) hb); have n1_ := Aside0.mk (blk_below (g := gb140) (o := .cells #[.int .i64 0, .slice none 0 0, .slice none 0 0, .slice none 0 0, .slice none 0 0] 93 (0, 0)) (by (with_reducible repeat (first | refine blk_drewN ?_ _ | refine blk_drew ?_ | refine blk_alloc ?_ _)); exact BK140.out) hb); have n2_ := Aside0.mk (below_step (by repeat (first | (with_reducible first | exact HB.out | apply below_alloc | apply pw_below_drewN | apply below_drew1 | refine below_set ?_ GE140.out) | exact HB.out)) hb); have n3_ := Aside0.mk (hbox); have n4_ := Aside0.mk ((by rw [hg]; exact (below_size (by repeat (first | (with_reducible first | exact HB.out | apply below_alloc | apply pw_below_drewN | apply below_drew1 | refine below_set ?_ GE140.out) | exact HB.out))) : w.heap.size ≤ gb145)); have n5_ := Aside0.mk ((by rw [hg]; exact (below_size (by repeat (first | (with_reducible first | exact HB.out | apply below_alloc | apply pw_below_drewN | apply below_drew1 | refine below_set ?_ GE140.out) | exact HB.out))) : w.heap.size ≤ gb145)); have n6_ := Aside0.mk ((by rw [hg]; exact Nat.ne_of_lt (blk_lt (g := gb140) (o := .cells #[.int .i64 0, .slice none 0 0, .slice none 0 0, .slice none 0 0, .slice none 0 0] 93 (0, 0)) (by (with_reducible repeat (first | refine blk_drewN ?_ _ | refine blk_drew ?_ | refine blk_alloc ?_ _)); exact BK140.out)) : gb140 ≠ gb145)); have n7_ := Aside0.mk ((by rw [hg]; exact Nat.ne_of_gt (blk_lt (g := gb140) (o := .cells #[.int .i64 0, .slice none 0 0, .slice none 0 0, .slice none 0 0, .slice none 0 0] 93 (0, 0)) (by (with_reducible repeat (first | refine blk_drewN ?_ _ | refine blk_drew ?_ | refine blk_alloc ?_ _)); exact BK140.out)) : gb145 ≠ gb140)); clear HO144; clear BK140; clear HB; have HO144 := n0_; have BK140 := n1_; have HB := n2_; have BK145 := n3_; have GW145 := n4_; have GE145 := n5_; have NB140_145 := n6_; have NB145_140 := n7_; clear n0_ n1_ n2_ n3_ n4_ n5_ n6_ n7_; clear hb hbox hg; have hnb10 := NB145_140.out; have hnc10 := NB140_145.out; have hcz11_0 : w9.cell? ⟨gb145, 0, none⟩ = some (.int .i64 0) := (blk_cell BK145.out 0).trans rfl; have hcz11_1 : w9.cell? ⟨gb145, 1, none⟩ = some (.slice none 0 0) := (blk_cell BK145.out 1).trans rfl; have hcz11_2 : w9.cell? ⟨gb145, 2, none⟩ = some (.slice none 0 0) := (blk_cell BK145.out 2).trans rfl; have hcz11_3 : w9.cell? ⟨gb145, 3, none⟩ = some (.slice none 0 0) := (blk_cell BK145.out 3).trans rfl; have hcz11_4 : w9.cell? ⟨gb145, 4, none⟩ = some (.slice none 0 0) := (blk_cell BK145.out 4).trans rfl; have hfz11_0 := blk_frozen BK145.out 0; have hfz11_1 := blk_frozen BK145.out 1; have hfz11_2 := blk_frozen BK145.out 2; have hfz11_3 := blk_frozen BK145.out 3; have hfz11_4 := blk_frozen BK145.out 4))
    go_loopg [13] k (fun kq v13 w' => ∃ (x13_1 : Int) (x146002_1 : List (S114)) (u146002 : Value), v13 = .int .i64 x13_1 ∧ Aside0 (maps_First.l0 kq (l0.length : Int) x13_1 0 t142 x146002_1 = some (r1, r2, r3, r4, r5)) ∧ Aside0 (kq ≤ k) ∧ Aside0 (Kd.R (Kd.int .i64) 3 w' w.heap.size (fun _ => True) (.slice Ao8 t142.length co8) t142) ∧ Aside0 (Kd.R k114 114 w' w.heap.size (fun _ => True) u146002 x146002_1) ∧ Aside0 (w'.heap[gb140]? = some (.cells #[.int .i64 0, (.slice none 0 0), (.slice none 0 0), (.slice none 0 0), (.slice none 0 0)] 93 (0, 0))) ∧ Aside0 (w'.heap[gb145]? = some (.cells #[.int .i64 0, (.slice Ao8 t142.length co8), u146002, (.slice none 0 0), (.slice none 0 0)] 93 (0, 0))) ∧ Aside0 (Below w.heap.size w w'))
    case atStart => exact ⟨(0), (([] : List (S114))), (.slice none 0 0), (by first | rfl | (simp; done) | (simp [*]; done)), H', ⟨Nat.le_refl _⟩, ⟨by (with_reducible repeat (first | apply Kd.R_alloc | apply Kd.R_drewN | apply Kd.R_drew)); exact Kd.R_mono (Kd.R_far (p := ⟨gb145, 4, none⟩) (Kd.R_far (p := ⟨gb145, 3, none⟩) (Kd.R_far (p := ⟨gb145, 2, none⟩) (Kd.R_far (p := ⟨gb145, 1, none⟩) (Kd.R_far (p := ⟨gb145, 0, none⟩) (Kd.R_types HO144.out BK145.out (by decide)) (fun _ hk => hk.2) (.int .i64 0)) (fun _ hk => hk.2) (.slice Ao8 t142.length co8)) (fun _ hk => hk.2) (.slice none 0 0)) (fun _ hk => hk.2) (.slice none 0 0)) (fun _ hk => hk.2) (.slice none 0 0)) (fun _ hk => trivial)⟩, ⟨by first | exact Kd.R_nil _ _ _ _ _ | exact Kd.N_nil _ _ _ _ _ | exact Kd.V_nil _ _ _ _ _ | exact Kd.Q_nil _ _ _ _ _ | exact Kd.S_nil _ _ _ _ _⟩, ⟨by (with_reducible repeat (first | refine blk_drewN ?_ _ | refine blk_drew ?_ | refine blk_alloc ?_ _)); refine blk_far ?_ NB140_145.out _; (with_reducible repeat (first | refine blk_drewN ?_ _ | refine blk_drew ?_ | refine blk_alloc ?_ _)); refine blk_far ?_ NB140_145.out _; (with_reducible repeat (first | refine blk_drewN ?_ _ | refine blk_drew ?_ | refine blk_alloc ?_ _)); refine blk_far ?_ NB140_145.out _; (with_reducible repeat (first | refine blk_drewN ?_ _ | refine blk_drew ?_ | refine blk_alloc ?_ _)); refine blk_far ?_ NB140_145.out _; (with_reducible repeat (first | refine blk_drewN ?_ _ | refine blk_drew ?_ | refine blk_alloc ?_ _)); refine blk_far ?_ NB140_145.out _; (with_reducible repeat (first | refine blk_drewN ?_ _ | refine blk_drew ?_ | refine blk_alloc ?_ _)); exact BK140.out⟩, ⟨by (with_reducible repeat (first | refine blk_drewN ?_ _ | refine blk_drew ?_ | refine blk_alloc ?_ _)); refine blk_put (cs := #[.int .i64 0, .slice Ao8 t142.length co8, .slice none 0 0, .slice none 0 0, .slice none 0 0]) ?_ 4 _ rfl; (with_reducible repeat (first | refine blk_drewN ?_ _ | refine blk_drew ?_ | refine blk_alloc ?_ _)); refine blk_put (cs := #[.int .i64 0, .slice Ao8 t142.length co8, .slice none 0 0, .slice none 0 0, .slice none 0 0]) ?_ 3 _ rfl; (with_reducible repeat (first | refine blk_drewN ?_ _ | refine blk_drew ?_ | refine blk_alloc ?_ _)); refine blk_put (cs := #[.int .i64 0, .slice Ao8 t142.length co8, .slice none 0 0, .slice none 0 0, .slice none 0 0]) ?_ 2 _ rfl; (with_reducible repeat (first | refine blk_drewN ?_ _ | refine blk_drew ?_ | refine blk_alloc ?_ _)); refine blk_put (cs := #[.int .i64 0, .slice none 0 0, .slice none 0 0, .slice none 0 0, .slice none 0 0]) ?_ 1 _ rfl; (with_reducible repeat (first | refine blk_drewN ?_ _ | refine blk_drew ?_ | refine blk_alloc ?_ _)); refine blk_put (cs := #[.int .i64 0, .slice none 0 0, .slice none 0 0, .slice none 0 0, .slice none 0 0]) ?_ 0 _ rfl; (with_reducible repeat (first | refine blk_drewN ?_ _ | refine blk_drew ?_ | refine blk_alloc ?_ _)); exact BK145.out⟩, ⟨by repeat (first | (with_reducible first | exact HB.out | apply below_alloc | apply pw_below_drewN | apply below_drew1 | refine below_set ?_ GE140.out | refine below_set ?_ GE145.out) | exact HB.out)⟩⟩
    case round =>
      clear H'
      try clear c1
      try clear p2
      try clear c3
      try clear c4
      try clear c5
      try clear c10
      try clear hcz11_0
      try clear hcz11_1
      try clear hcz11_2
      try clear hcz11_3
      try clear hcz11_4
      try clear hfz11_0
      try clear hfz11_1
      try clear hfz11_2
      try clear hfz11_3
      try clear hfz11_4
      obtain ⟨x13_1, x146002_1, u146002, rfl, HA, HK1, HO_146001, HO_146002, BK140, BK145, HB⟩ := hrel
      cases gk with
      | zero => exact absurd HA.out (by simp [maps_First.l0])
      | succ k1 =>
        have H := HA.out
        clear HA
        simp only [maps_First.l0] at H
        by_cases c12 : x13_1 < (l0.length : Int)
        · rw [if_pos c12] at H
          have c12b0 : decide (x13_1 < (l0.length : Int)) = true := decide_eq_true c12
          clear c12
          by_cases c13 : x146002_1.length < 4398046511104
          · rw [if_pos c13] at H
            have LMc13 := Aside0.mk c13
            clear c13
            obtain ⟨y146, hy146⟩ : ∃ y_ : List (S114), y_ = (x146002_1 ++ [(⟨0, false, 65536, 0⟩ : S114)]) := ⟨_, rfl⟩
            replace H : (maps_First.l0 k1 (l0.length : Int) (wrap64 (x13_1 + 1)) 0 t142 y146) = some (r1, r2, r3, r4, r5) := by first | (rw [hy146]; with_reducible exact H) | (have H2_ := (Option.bind_some _ _).symm.trans H; rw [hy146]; with_reducible exact H2_) | (have H2_ := (Option.bind_some _ _).symm.trans H; with_reducible exact H2_) | with_reducible exact H | (rw [hy146]; exact H) | exact H
            have Ny146 := Aside0.mk hy146
            clear hy146
            have H' := Aside0.mk H
            clear H
            have hnb14 := NB145_140.out
            have hnc14 := NB140_145.out
            have hcz15_0 : wr.cell? ⟨gb145, 0, none⟩ = some (.int .i64 0) := (blk_cell BK145.out 0).trans rfl
            have hcz15_1 : wr.cell? ⟨gb145, 1, none⟩ = some (.slice Ao8 t142.length co8) := (blk_cell BK145.out 1).trans rfl
            have hcz15_2 : wr.cell? ⟨gb145, 2, none⟩ = some (u146002) := (blk_cell BK145.out 2).trans rfl
            have hcz15_3 : wr.cell? ⟨gb145, 3, none⟩ = some (.slice none 0 0) := (blk_cell BK145.out 3).trans rfl
            have hcz15_4 : wr.cell? ⟨gb145, 4, none⟩ = some (.slice none 0 0) := (blk_cell BK145.out 4).trans rfl
            have hfz15_0 := blk_frozen BK145.out 0
            have hfz15_1 := blk_frozen BK145.out 1
            have hfz15_2 := blk_frozen BK145.out 2
            have hfz15_3 := blk_frozen BK145.out 3
            have hfz15_4 := blk_frozen BK145.out 4
            go_wp2_with (first | ((with_reducible refine gate_builtin (b := .append) (xs := #[.tmp 16, .tmp 18]) rfl ?_); at_builtin; refine Kd.R_append k114 (w0 := w) w.heap.size rfl (.tmp 16) (.tmp 18) 90 114 (.agg #[(.int .i64 0), (.bool false), (.int .i64 0), (.int .i64 0)]) 32 rfl Try.underlying90 info114 rfl (by decide) (by omega) u146002 x146002_1 (⟨0, false, 65536, 0⟩ : S114) [.int .i64 0, .bool false, .int .i64 65536, .int .i64 0] (fun _ => True) (fun _ => False) rfl rfl ?aP (fun _ hk => hk.elim) ?aF ?aO ?aB ?aS ?aL ?_; (case aP => exact k114_mkM _ _ _ (⟨0, false, 65536, 0⟩ : S114)); (case aB => exact (by repeat (first | (with_reducible first | exact HB.out | apply below_alloc | apply pw_below_drewN | apply below_drew1 | refine below_set ?_ GE140.out | refine below_set ?_ GE145.out) | exact HB.out))); (case aF => exact (fun _ _ => trivial)); (case aO => exact (by (with_reducible repeat (first | apply Kd.R_alloc | apply Kd.R_drewN | apply Kd.R_drew)); exact HO_146002.out)); (case aS => exact (below_size (by repeat (first | (with_reducible first | exact HB.out | apply below_alloc | apply pw_below_drewN | apply below_drew1 | refine below_set ?_ GE140.out | refine below_set ?_ GE145.out) | exact HB.out)))); (case aL => have := LMc13.out; omega); intro v147 w16 ho hb hg hat; rw [← Ny146.out] at ho; have n0_ := Aside0.mk (Kd.R_over' (by (with_reducible repeat (first | apply Kd.R_alloc | apply Kd.R_drewN | apply Kd.R_drew)); exact HO_146001.out) (Kd.R_typed (by (with_reducible repeat (first | apply Kd.R_alloc | apply Kd.R_drewN | apply Kd.R_drew)); exact HO_146002.out)) (by decide) hg); have n1_ := Aside0.mk (blk_grown (g := gb140) (o := .cells #[.int .i64 0, .slice none 0 0, .slice none 0 0, .slice none 0 0, .slice none 0 0] 93 (0, 0)) (by (with_reducible repeat (first | refine blk_drewN ?_ _ | refine blk_drew ?_ | refine blk_alloc ?_ _)); exact BK140.out) hg (Kd.R_ne HO_146002.out BK140.out (by decide))); have n2_ := Aside0.mk (blk_grown (g := gb145) (o := .cells #[.int .i64 0, .slice Ao8 t142.length co8, u146002, .slice none 0 0, .slice none 0 0] 93 (0, 0)) (by (with_reducible repeat (first | refine blk_drewN ?_ _ | refine blk_drew ?_ | refine blk_alloc ?_ _)); exact BK145.out) hg (Kd.R_ne HO_146002.out BK145.out (by decide))); have n3_ := Aside0.mk (hb); have n4_ := Aside0.mk (ho); clear HO_146001; clear BK140; clear BK145; clear HB; clear HO_146002; have HO_146001 := n0_; have BK140 := n1_; have BK145 := n2_; have HB := n3_; have HO148 := n4_; clear n0_ n1_ n2_ n3_ n4_; clear ho hb hg hat; obtain ⟨Ao17, co17, eo17⟩ := Kd.R_slice HO148.out; subst eo17; have hcz18_0 : w16.cell? ⟨gb145, 0, none⟩ = some (.int .i64 0) := (blk_cell BK145.out 0).trans rfl; have hcz18_1 : w16.cell? ⟨gb145, 1, none⟩ = some (.slice Ao8 t142.length co8) := (blk_cell BK145.out 1).trans rfl; have hcz18_2 : w16.cell? ⟨gb145, 2, none⟩ = some (u146002) := (blk_cell BK145.out 2).trans rfl; have hcz18_3 : w16.cell? ⟨gb145, 3, none⟩ = some (.slice none 0 0) := (blk_cell BK145.out 3).trans rfl; have hcz18_4 : w16.cell? ⟨gb145, 4, none⟩ = some (.slice none 0 0) := (blk_cell BK145.out 4).trans rfl; have hfz18_0 := blk_frozen BK145.out 0; have hfz18_1 := blk_frozen BK145.out 1; have hfz18_2 := blk_frozen BK145.out 2; have hfz18_3 := blk_frozen BK145.out 3; have hfz18_4 := blk_frozen BK145.out 4))
            go_roundg k1
            case measure => have := HK1.out; omega
            case rel => exact ⟨(wrap64 (x13_1 + 1)), (y146), (.slice Ao17 y146.length co17), (by first | rfl | (simp; done) | (simp [*]; done)), H', ⟨by have := HK1.out; omega⟩, ⟨by (with_reducible repeat (first | apply Kd.R_alloc | apply Kd.R_drewN | apply Kd.R_drew)); exact Kd.R_mono (Kd.R_far (p := ⟨gb145, 2, none⟩) (Kd.R_types HO_146001.out BK145.out (by decide)) (fun _ hk => hk.2) (.slice Ao17 y146.length co17)) (fun _ hk => trivial)⟩, ⟨by (with_reducible repeat (first | apply Kd.R_alloc | apply Kd.R_drewN | apply Kd.R_drew)); exact Kd.R_mono (Kd.R_far (p := ⟨gb145, 2, none⟩) (Kd.R_types HO148.out BK145.out (by decide)) (fun _ hk => hk.2) (.slice Ao17 y146.length co17)) (fun _ hk => trivial)⟩, ⟨by (with_reducible repeat (first | refine blk_drewN ?_ _ | refine blk_drew ?_ | refine blk_alloc ?_ _)); refine blk_far ?_ NB140_145.out _; (with_reducible repeat (first | refine blk_drewN ?_ _ | refine blk_drew ?_ | refine blk_alloc ?_ _)); exact BK140.out⟩, ⟨by (with_reducible repeat (first | refine blk_drewN ?_ _ | refine blk_drew ?_ | refine blk_alloc ?_ _)); refine blk_put (cs := #[.int .i64 0, .slice Ao8 t142.length co8, u146002, .slice none 0 0, .slice none 0 0]) ?_ 2 _ rfl; (with_reducible repeat (first | refine blk_drewN ?_ _ | refine blk_drew ?_ | refine blk_alloc ?_ _)); exact BK145.out⟩, ⟨by repeat (first | (with_reducible first | exact HB.out | apply below_alloc | apply pw_below_drewN | apply below_drew1 | refine below_set ?_ GE140.out | refine below_set ?_ GE145.out) | exact HB.out)⟩⟩
          · rw [if_neg c13] at H
            exact absurd H (by simp)
        · rw [if_neg c12] at H
          have c12b0 : decide (x13_1 < (l0.length : Int)) = false := decide_eq_false c12
          clear c12
          simp only [Option.some.injEq, Prod.mk.injEq] at H
          obtain ⟨rfl, rfl, rfl, rfl, rfl⟩ := H
          have hnb19 := NB145_140.out
          have hnc19 := NB140_145.out
          have hcz20_0 : wr.cell? ⟨gb145, 0, none⟩ = some (.int .i64 0) := (blk_cell BK145.out 0).trans rfl
          have hcz20_1 : wr.cell? ⟨gb145, 1, none⟩ = some (.slice Ao8 t142.length co8) := (blk_cell BK145.out 1).trans rfl
          have hcz20_2 : wr.cell? ⟨gb145, 2, none⟩ = some (u146002) := (blk_cell BK145.out 2).trans rfl
          have hcz20_3 : wr.cell? ⟨gb145, 3, none⟩ = some (.slice none 0 0) := (blk_cell BK145.out 3).trans rfl
          have hcz20_4 : wr.cell? ⟨gb145, 4, none⟩ = some (.slice none 0 0) := (blk_cell BK145.out 4).trans rfl
          have hfz20_0 := blk_frozen BK145.out 0
          have hfz20_1 := blk_frozen BK145.out 1
          have hfz20_2 := blk_frozen BK145.out 2
          have hfz20_3 := blk_frozen BK145.out 3
          have hfz20_4 := blk_frozen BK145.out 4
          have hcz21_0 : wr.cell? ⟨gb140, 0, none⟩ = some (.int .i64 0) := (blk_cell BK140.out 0).trans rfl
          have hcz21_1 : wr.cell? ⟨gb140, 1, none⟩ = some (.slice none 0 0) := (blk_cell BK140.out 1).trans rfl
          have hcz21_2 : wr.cell? ⟨gb140, 2, none⟩ = some (.slice none 0 0) := (blk_cell BK140.out 2).trans rfl
          have hcz21_3 : wr.cell? ⟨gb140, 3, none⟩ = some (.slice none 0 0) := (blk_cell BK140.out 3).trans rfl
          have hcz21_4 : wr.cell? ⟨gb140, 4, none⟩ = some (.slice none 0 0) := (blk_cell BK140.out 4).trans rfl
          have hfz21_0 := blk_frozen BK140.out 0
          have hfz21_1 := blk_frozen BK140.out 1
          have hfz21_2 := blk_frozen BK140.out 2
          have hfz21_3 := blk_frozen BK140.out 3
          have hfz21_4 := blk_frozen BK140.out 4
          obtain ⟨Ao22, co22, eo22⟩ := Kd.R_slice HO_146002.out
          subst eo22
          go_wp2
          refine bodyPost_ret (results_cell_row rfl _ _ gb140 93 #[.int .i64 0, .slice Ao8 t142.length co8, .slice Ao22 x146002_1.length co22, .slice none 0 0, .slice none 0 0] (0, 0) _ rfl (by (with_reducible repeat (first | refine blk_drewN ?_ _ | refine blk_drew ?_ | refine blk_alloc ?_ _)); refine blk_put (cs := #[.int .i64 0, .slice Ao8 t142.length co8, .slice Ao22 x146002_1.length co22, .slice none 0 0, .slice none 0 0]) ?_ 4 _ rfl; (with_reducible repeat (first | refine blk_drewN ?_ _ | refine blk_drew ?_ | refine blk_alloc ?_ _)); refine blk_put (cs := #[.int .i64 0, .slice Ao8 t142.length co8, .slice Ao22 x146002_1.length co22, .slice none 0 0, .slice none 0 0]) ?_ 3 _ rfl; (with_reducible repeat (first | refine blk_drewN ?_ _ | refine blk_drew ?_ | refine blk_alloc ?_ _)); refine blk_put (cs := #[.int .i64 0, .slice Ao8 t142.length co8, .slice none 0 0, .slice none 0 0, .slice none 0 0]) ?_ 2 _ rfl; (with_reducible repeat (first | refine blk_drewN ?_ _ | refine blk_drew ?_ | refine blk_alloc ?_ _)); refine blk_put (cs := #[.int .i64 0, .slice none 0 0, .slice none 0 0, .slice none 0 0, .slice none 0 0]) ?_ 1 _ rfl; (with_reducible repeat (first | refine blk_drewN ?_ _ | refine blk_drew ?_ | refine blk_alloc ?_ _)); refine blk_put (cs := #[.int .i64 0, .slice none 0 0, .slice none 0 0, .slice none 0 0, .slice none 0 0]) ?_ 0 _ rfl; (with_reducible repeat (first | refine blk_drewN ?_ _ | refine blk_drew ?_ | refine blk_alloc ?_ _)); exact BK140.out) Try.underlying93 rfl (by kernel_rfl)) rfl ?_
          exact ⟨_, _, _, _, by first | rfl | (simp [errW_none, errW_some] <;> rfl) | (simp [*, errW_none, errW_some] <;> rfl), by (with_reducible repeat (first | apply Kd.R_alloc | apply Kd.R_drewN | apply Kd.R_drew)); exact Kd.R_mono (Kd.R_far (p := ⟨gb140, 4, none⟩) (Kd.R_far (p := ⟨gb140, 3, none⟩) (Kd.R_far (p := ⟨gb140, 2, none⟩) (Kd.R_far (p := ⟨gb140, 1, none⟩) (Kd.R_far (p := ⟨gb140, 0, none⟩) (Kd.R_types HO_146001.out BK140.out (by decide)) (fun _ hk => hk.2) (.int .i64 0)) (fun _ hk => hk.2) (.slice Ao8 t142.length co8)) (fun _ hk => hk.2) (.slice Ao22 x146002_1.length co22)) (fun _ hk => hk.2) (.slice none 0 0)) (fun _ hk => hk.2) (.slice none 0 0)) (fun _ hk => trivial), by (with_reducible repeat (first | apply Kd.R_alloc | apply Kd.R_drewN | apply Kd.R_drew)); exact Kd.R_mono (Kd.R_far (p := ⟨gb140, 4, none⟩) (Kd.R_far (p := ⟨gb140, 3, none⟩) (Kd.R_far (p := ⟨gb140, 2, none⟩) (Kd.R_far (p := ⟨gb140, 1, none⟩) (Kd.R_far (p := ⟨gb140, 0, none⟩) (Kd.R_types HO_146002.out BK140.out (by decide)) (fun _ hk => hk.2) (.int .i64 0)) (fun _ hk => hk.2) (.slice Ao8 t142.length co8)) (fun _ hk => hk.2) (.slice Ao22 x146002_1.length co22)) (fun _ hk => hk.2) (.slice none 0 0)) (fun _ hk => hk.2) (.slice none 0 0)) (fun _ hk => trivial), by first | exact Kd.R_nil _ _ _ _ _ | exact Kd.N_nil _ _ _ _ _ | exact Kd.V_nil _ _ _ _ _ | exact Kd.Q_nil _ _ _ _ _ | exact Kd.S_nil _ _ _ _ _, by first | exact Kd.R_nil _ _ _ _ _ | exact Kd.N_nil _ _ _ _ _ | exact Kd.V_nil _ _ _ _ _ | exact Kd.Q_nil _ _ _ _ _ | exact Kd.S_nil _ _ _ _ _, by repeat (first | (with_reducible first | exact HB.out | apply below_alloc | apply pw_below_drewN | apply below_drew1 | refine below_set ?_ GE140.out | refine below_set ?_ GE145.out) | exact HB.out)⟩
  · replace c3 := Bool.eq_false_iff.mpr c3
    subst c3
    have H1 : (some (0, ([] : List Int), ([] : List (S114)), ([] : List (S29)), ([] : List (S37)))) = some (r1, r2, r3, r4, r5) := by rw [if_neg (show ¬ (false = true) by decide)] at H; exact H
    clear H
    have H := H1
    clear H1
    simp only [Option.some.injEq, Prod.mk.injEq] at H
    obtain ⟨rfl, rfl, rfl, rfl, rfl⟩ := H
    go_enter Try.func46, Try.ntmps46
    go_wp2_with (first | ((with_reducible refine gate_dst (N := 2) rfl ?_); refine box_event ?hg (N := 2) ?hd (cs := #[.int .i64 0, .slice none 0 0, .slice none 0 0, .slice none 0 0, .slice none 0 0]) (t := 93) ?hr ?_; (case hd => rfl); (case hg => rfl); (case hr => first | (go_simp; done) | (go_simp; rfl)); intro gb140 hg w23 hbox hb; have n0_ := Aside0.mk (below_step (by repeat (first | (with_reducible first | exact HB.out | apply below_alloc | apply pw_below_drewN | apply below_drew1) | exact HB.out)) hb); have n1_ := Aside0.mk (hbox); have n2_ := Aside0.mk ((by rw [hg]; exact (below_size (by repeat (first | (with_reducible first | exact HB.out | apply below_alloc | apply pw_below_drewN | apply below_drew1) | exact HB.out))) : w.heap.size ≤ gb140)); have n3_ := Aside0.mk ((by rw [hg]; exact (below_size (by repeat (first | (with_reducible first | exact HB.out | apply below_alloc | apply pw_below_drewN | apply below_drew1) | exact HB.out))) : w.heap.size ≤ gb140)); clear HB; have HB := n0_; have BK140 := n1_; have GW140 := n2_; have GE140 := n3_; clear n0_ n1_ n2_ n3_; clear hb hbox hg) | ((with_reducible refine gate_callee (f := 56) rfl ?_); refine goesL_ (some 5) rfl rfl Try.func56 (by kernel_rfl) rfl #[.slice A0 l0.length c0] rfl (by (try simp only [List.map_toArray, List.map_cons, List.map_nil]); first | done | rfl | (simp only [List.length_drop, List.length_take]; rfl)) ?_; (with_reducible refine (maps_hosted.calls _ _ l0 false _ ?side1 ?side2 A2.out).mono ?_); (case side1 => repeat (first | exact (Kd.C_below HR0.out HB.out) | (with_reducible refine Kd.C_alloc ?_ _) | (with_reducible refine Kd.C_drewN ?_ _) | (with_reducible refine Kd.C_drew ?_))); (case side2 => exact HC0.out); rintro e w24 ⟨rfl, hb⟩; refine ⟨_, rfl, ?_⟩; have n0_ := Aside0.mk (blk_below (g := gb140) (o := .cells #[.int .i64 0, .slice none 0 0, .slice none 0 0, .slice none 0 0, .slice none 0 0] 93 (0, 0)) (by (with_reducible repeat (first | refine blk_drewN ?_ _ | refine blk_drew ?_ | refine blk_alloc ?_ _)); exact BK140.out) hb); have n1_ := Aside0.mk (below_step (by repeat (first | (with_reducible first | exact HB.out | apply below_alloc | apply pw_below_drewN | apply below_drew1 | refine below_set ?_ GE140.out) | exact HB.out)) hb); clear BK140; clear HB; have BK140 := n0_; have HB := n1_; clear n0_ n1_; (try clear hb); (try clear hb2); (try clear hk); (try clear hi); have hcz25_0 : w24.cell? ⟨gb140, 0, none⟩ = some (.int .i64 0) := (blk_cell BK140.out 0).trans rfl; have hcz25_1 : w24.cell? ⟨gb140, 1, none⟩ = some (.slice none 0 0) := (blk_cell BK140.out 1).trans rfl; have hcz25_2 : w24.cell? ⟨gb140, 2, none⟩ = some (.slice none 0 0) := (blk_cell BK140.out 2).trans rfl; have hcz25_3 : w24.cell? ⟨gb140, 3, none⟩ = some (.slice none 0 0) := (blk_cell BK140.out 3).trans rfl; have hcz25_4 : w24.cell? ⟨gb140, 4, none⟩ = some (.slice none 0 0) := (blk_cell BK140.out 4).trans rfl; have hfz25_0 := blk_frozen BK140.out 0; have hfz25_1 := blk_frozen BK140.out 1; have hfz25_2 := blk_frozen BK140.out 2; have hfz25_3 := blk_frozen BK140.out 3; have hfz25_4 := blk_frozen BK140.out 4))
    refine bodyPost_ret (results_cell_row rfl _ _ gb140 93 #[.int .i64 0, .slice none 0 0, .slice none 0 0, .slice none 0 0, .slice none 0 0] (0, 0) _ rfl (by (with_reducible repeat (first | refine blk_drewN ?_ _ | refine blk_drew ?_ | refine blk_alloc ?_ _)); refine blk_put (cs := #[.int .i64 0, .slice none 0 0, .slice none 0 0, .slice none 0 0, .slice none 0 0]) ?_ 4 _ rfl; (with_reducible repeat (first | refine blk_drewN ?_ _ | refine blk_drew ?_ | refine blk_alloc ?_ _)); refine blk_put (cs := #[.int .i64 0, .slice none 0 0, .slice none 0 0, .slice none 0 0, .slice none 0 0]) ?_ 3 _ rfl; (with_reducible repeat (first | refine blk_drewN ?_ _ | refine blk_drew ?_ | refine blk_alloc ?_ _)); refine blk_put (cs := #[.int .i64 0, .slice none 0 0, .slice none 0 0, .slice none 0 0, .slice none 0 0]) ?_ 2 _ rfl; (with_reducible repeat (first | refine blk_drewN ?_ _ | refine blk_drew ?_ | refine blk_alloc ?_ _)); refine blk_put (cs := #[.int .i64 0, .slice none 0 0, .slice none 0 0, .slice none 0 0, .slice none 0 0]) ?_ 1 _ rfl; (with_reducible repeat (first | refine blk_drewN ?_ _ | refine blk_drew ?_ | refine blk_alloc ?_ _)); refine blk_put (cs := #[.int .i64 0, .slice none 0 0, .slice none 0 0, .slice none 0 0, .slice none 0 0]) ?_ 0 _ rfl; (with_reducible repeat (first | refine blk_drewN ?_ _ | refine blk_drew ?_ | refine blk_alloc ?_ _)); exact BK140.out) Try.underlying93 rfl (by kernel_rfl)) rfl ?_
    exact ⟨_, _, _, _, by first | rfl | (simp [errW_none, errW_some] <;> rfl) | (simp [*, errW_none, errW_some] <;> rfl), by first | exact Kd.R_nil _ _ _ _ _ | exact Kd.N_nil _ _ _ _ _ | exact Kd.V_nil _ _ _ _ _ | exact Kd.Q_nil _ _ _ _ _ | exact Kd.S_nil _ _ _ _ _, by first | exact Kd.R_nil _ _ _ _ _ | exact Kd.N_nil _ _ _ _ _ | exact Kd.V_nil _ _ _ _ _ | exact Kd.Q_nil _ _ _ _ _ | exact Kd.S_nil _ _ _ _ _, by first | exact Kd.R_nil _ _ _ _ _ | exact Kd.N_nil _ _ _ _ _ | exact Kd.V_nil _ _ _ _ _ | exact Kd.Q_nil _ _ _ _ _ | exact Kd.S_nil _ _ _ _ _, by first | exact Kd.R_nil _ _ _ _ _ | exact Kd.N_nil _ _ _ _ _ | exact Kd.V_nil _ _ _ _ _ | exact Kd.Q_nil _ _ _ _ _ | exact Kd.S_nil _ _ _ _ _, by repeat (first | (with_reducible first | exact HB.out | apply below_alloc | apply pw_below_drewN | apply below_drew1 | refine below_set ?_ GE140.out) | exact HB.out)⟩
end Go.Proofs.Ytobbocolmlljdaa.P
namespace Go.Proofs.Ytobbocolmlljdaa.P
open Go.RowKit Go.Proofs.YtobbocolmlljdaaW.PrintWords Go.Proofs.YtobbocolmlljdaaW.PrintLast Go.Proofs.YtobbocolmlljdaaW.PrintMore Go.Proofs.YtobbocolmlljdaaW.HB
set_option linter.unusedVariables false
set_option linter.unusedSimpArgs false
attribute [local go_sem] Instr.field asAgg
theorem first_0 : maps_First.f 10 [0] = some (0, [0], [⟨0, false, 65536, 0⟩], [], []) := by kernel_rfl
set_option maxRecDepth 100000 in
theorem can_0 (A : Option Addr) (c : Nat) (w : World) (hr : Kd.C (Kd.int .i64) w A 1 [0]) (hc : 1 ≤ c) :
    Calls Try.prog 22 #[.agg #[.int .i64 1, .slice A 1 c, .int .i64 0, .int .i64 32]] w fun e w' => e = .returned (.bool true) ∧ Below w.heap.size w w' := by
  have HR := Aside0.mk hr
  have hu := Try.underlying47
  have hu2 := Try.underlying93
  have HB := Aside0.mk (Below.refl w.heap.size w)
  clear hr
  go_enter Try.func22, Try.ntmps22
  go_wp2_with (first
    | (go_at_call 46; refine (maps_First.calls 10 A c [0] _ _ _ _ _ _ (Kd.C_alloc HR.out _) hc first_0).mono ?_; rintro e w1 ⟨u1, u2, u3, u4, rfl, h1, h2, h3, h4, hb⟩; obtain ⟨A1, c1, rfl⟩ := Kd.R_slice h1; have HB1 := Aside0.mk (below_step (below_alloc HB.out _) hb); have hq2 : w1.cell? ⟨w.heap.size, 2, none⟩ = some (.int .i64 0) := (hb.cell (by simp)).trans (cell_fresh _ _ _ _ _ rfl); have hq3 : w1.cell? ⟨w.heap.size, 3, none⟩ = some (.int .i64 32) := (hb.cell (by simp)).trans (cell_fresh _ _ _ _ _ rfl); clear h1 h2 h3 h4 hb))
  go_ret
  exact ⟨rfl, HB1.out⟩
end Go.Proofs.Ytobbocolmlljdaa.P
namespace Go.Proofs.Ytobbocolmlljdaa.P
open Go.RowKit Go.Proofs.YtobbocolmlljdaaW.PrintWords Go.Proofs.YtobbocolmlljdaaW.PrintLast Go.Proofs.YtobbocolmlljdaaW.PrintMore Go.Proofs.YtobbocolmlljdaaW.HB
set_option linter.unusedVariables false
set_option linter.unusedSimpArgs false
theorem infoA : (Try.prog.info? 27).map (fun i => (i.zero, i.size, i.bytes)) = some (some (.agg #[(.int .i64 0), (.int .i64 0)]), 2, 16) := by kernel_rfl
def addrs (kind : Int) (n : Nat) : List S27 := (List.range n).map fun i : Nat => (⟨kind, (i : Int)⟩ : S27)
theorem addrs_succ (kind : Int) (n : Nat) : addrs kind (n + 1) = addrs kind n ++ [⟨kind, n⟩] := by unfold addrs; rw [List.range_succ, List.map_append]; rfl
theorem addrs_len (kind : Int) (n : Nat) : (addrs kind n).length = n := by unfold addrs; rw [List.length_map, List.length_range]
structure NO (w0 W : World) (po pc : Nat) (cs : Array Value) (v : Value) (out : List S27) : Prop where
  qo : Boxed W po 69 v
  r : Kd.R k27 27 W w0.heap.size (fun _ => True) v out
  c : W.heap[pc]? = some (.cells cs 47 (0, 0))
  below : Below w0.heap.size w0 W
  lo : w0.heap.size ≤ po
  lc : w0.heap.size ≤ pc
  ne : po ≠ pc
theorem NO.put {w0 W : World} {po pc : Nat} {cs : Array Value} {v : Value} {out : List S27} (h : NO w0 W po pc cs v out) {W1 : World} {v1 : Value} {out1 : List S27}
    (hr : Kd.R k27 27 W1 w0.heap.size (fun _ => True) v1 out1) (hg : W.grownBy W1 v.ownBlock) (hb : Below w0.heap.size w0 W1) : NO w0 (W1.setCell ⟨po, 0, none⟩ v1) po pc cs v1 out1 := by
  have b1 := h.qo.kept hg (Kd.R_ne h.r h.qo (by decide))
  have b2 : W1.heap[pc]? = some (.cells cs 47 (0, 0)) := (hg.block pc (Array.getElem?_eq_some_iff.1 h.c).1 (Kd.R_ne h.r h.c (by decide))).trans h.c
  exact ⟨b1.set _, Kd.R_set hr b1 (by intro q hq; simp [k27, Kd.iso, Kd.pair, Kd.int, Kd.scalar] at hq; omega) 0 _, (Below.heap_setCell W1 ⟨po, 0, none⟩ v1 pc (Ne.symm h.ne)).trans b2, below_set hb h.lo, h.lo, h.lc, h.ne⟩
set_option maxRecDepth 100000 in
set_option maxHeartbeats 4000000 in
theorem nodes_1.calls (w0 W : World) (po pc : Nat) (cs : Array Value) (v : Value) (out : List S27) (kind : Int) (n : Nat) (h : NO w0 W po pc cs v out) (hn : n ≤ 1000) (hl : out.length ≤ 1000) :
    Calls Try.prog 47 #[.int .i64 kind, .int .i64 n, .pointer (some ⟨po, 0, none⟩)] W fun e W' => (∃ u, e = .returned u) ∧ ∃ v', NO w0 W' po pc cs v' (out ++ addrs kind n) := by
  have HO := Aside0.mk h
  have HN := Aside0.mk hn
  have HL := Aside0.mk hl
  clear h hl
  go_enter Try.func47, Try.ntmps47
  go_wp2
  go_loopw [7] (fun v7 w' => ∃ (x : Int) (k : Nat) (v' : Value), v7 = .int .i64 x ∧ Aside0 (x = k ∧ k ≤ n) ∧ Aside0 (NO w0 w' po pc cs v' (out ++ addrs kind k))) (fun v7 _ => n - (intOf v7).toNat)
  case atStart => exact ⟨0, 0, v, rfl, ⟨by omega⟩, ⟨by simpa [addrs] using HO.out⟩⟩
  case round =>
    clear HO
    obtain ⟨x, k, v', rfl, hk, HO⟩ := hrel
    have hkk := hk.out
    by_cases b1 : x < (n : Int)
    · have q1 := eq_true b1
      have hco := HO.out.qo.cell
      have HR := Aside0.mk HO.out.r
      have HB := Aside0.mk HO.out.below
      have hlen : (out ++ addrs kind k).length ≤ 2000 := by rw [List.length_append, addrs_len]; have := HL.out; omega
      replace hlen := Aside0.mk hlen
      go_upto_region 4 with (first
        | ((with_reducible refine gate_builtin (b := .append) (xs := #[.tmp 10, .tmp 14]) rfl ?_); refine Kd.R_append k27 (w0 := w0) w0.heap.size rfl (.tmp 10) (.tmp 14) 69 27 (.agg #[(.int .i64 0), (.int .i64 0)]) 16 rfl Try.underlying69 infoA rfl (by decide) (by omega) _ (out ++ addrs kind k) (⟨kind, (k : Int)⟩ : S27) _ (fun _ => True) (fun _ => False) rfl rfl (k27_mkM _ _ _ _) (fun _ h => h.elim) (fun _ _ => trivial) HR.out HB.out HB.out.size (by have := hlen.out; omega) ?_; intro v1 w3 hr hb hg hat; obtain ⟨A1, c1, rfl⟩ := Kd.R_slice hr; have N3 := Aside0.mk (HO.out.put hr hg hb); have hf := (HO.out.qo.kept hg (Kd.R_ne HO.out.r HO.out.qo (by decide))).frozen; have hcc := (HO.out.qo.kept hg (Kd.R_ne HO.out.r HO.out.qo (by decide))).cell; clear hr hb hg hat))
      go_wp2
      refine ⟨⟨_, k + 1, .slice A1 (out.length + ((addrs kind k).length + 1)) c1, rfl, ⟨by omega, by omega⟩, ⟨?_⟩⟩, by simp only [intOf]; omega⟩
      have n3 := N3.out
      rw [show ((out ++ addrs kind k) ++ [(⟨kind, (k : Int)⟩ : S27)]).length = out.length + ((addrs kind k).length + 1) from by simp] at n3
      rw [addrs_succ, ← List.append_assoc]
      exact n3
    · have q1 := eq_false b1
      have hkn : k = n := by omega
      go_wp2
      subst hkn
      go_end0
      exact ⟨⟨_, rfl⟩, _, HO.out⟩
end Go.Proofs.Ytobbocolmlljdaa.P
namespace Go.Proofs.Ytobbocolmlljdaa.P
open Go.RowKit Go.Proofs.YtobbocolmlljdaaW.PrintWords Go.Proofs.YtobbocolmlljdaaW.PrintLast Go.Proofs.YtobbocolmlljdaaW.PrintMore Go.Proofs.YtobbocolmlljdaaW.HB
set_option linter.unusedVariables false
set_option linter.unusedSimpArgs false
def nodesL (m h c : Nat) : List S27 := addrs 1 m ++ addrs 2 h ++ addrs 3 c
set_option maxRecDepth 100000 in
set_option maxHeartbeats 4000000 in
theorem nodes.calls (m h c : Nat) (s : Int) (A : Option Addr) (cc : Nat) (w : World) (hm : m ≤ 300) (hh : h ≤ 300) (hc : c ≤ 300) :
    Calls Try.prog 28 #[.agg #[.int .i64 m, .slice A h cc, .int .i64 c, .int .i64 s]] w fun e w' => ∃ v, e = .returned v ∧ Kd.R k27 27 w' w.heap.size (fun _ => True) v (nodesL m h c) ∧ Below w.heap.size w w' := by
  have hu := Try.underlying47
  have N0 : NO w ((w.alloc (.cells #[.int .i64 m, .slice A h cc, .int .i64 c, .int .i64 s] 47)).alloc (.cells #[.slice none 0 0] 69)) (w.heap.size + 1) w.heap.size #[.int .i64 m, .slice A h cc, .int .i64 c, .int .i64 s] (.slice none 0 0) [] :=
    ⟨by have := Boxed.new (w.alloc (.cells #[.int .i64 m, .slice A h cc, .int .i64 c, .int .i64 s] 47)) 69 (.slice none 0 0); rwa [World.size_alloc] at this, Kd.R_nil _ _ _ _ _, (Below.heap_alloc _ _ _ (by simp)).trans (World.alloc_heap_new w _), below_alloc (below_alloc (Below.refl _ _) _) _, by omega, Nat.le_refl _, by omega⟩
  replace N0 := Aside0.mk N0
  have HMx := Aside0.mk (And.intro hm (And.intro hh hc))
  go_enter Try.func28, Try.ntmps28
  go_wp2_with (first
    | (go_at_call 47; have N := N0; refine (nodes_1.calls w _ _ _ _ _ [] 1 m N.out (by have := HMx.out; omega) (by simp)).mono ?_; clear N0; rintro e w1 ⟨⟨u, rfl⟩, v1, n1⟩; have N1 := Aside0.mk n1; have k1 : w1.cell? ⟨w.heap.size, 1, none⟩ = some (.slice A h cc) := by simp [World.cell?, n1.c]
       clear n1)
    | (go_at_call 47; have N := N1; refine (nodes_1.calls w _ _ _ _ _ _ 2 h N.out (by have := HMx.out; omega) (by have := HMx.out; simp [addrs_len]; omega)).mono ?_; clear N1; rintro e w2 ⟨⟨u, rfl⟩, v2, n2⟩; have N2 := Aside0.mk n2; have k2 : w2.cell? ⟨w.heap.size, 2, none⟩ = some (.int .i64 c) := by simp [World.cell?, n2.c]
       clear n2)
    | (go_at_call 47; have N := N2; refine (nodes_1.calls w _ _ _ _ _ _ 3 c N.out (by have := HMx.out; omega) (by have := HMx.out; simp [addrs_len]; omega)).mono ?_; clear N2; rintro e w3 ⟨⟨u, rfl⟩, v3, n3⟩; have N3 := Aside0.mk n3; have k3 := n3.qo.cell; clear n3))
  go_ret
  exact ⟨_, rfl, by have := N3.out.r; simpa [nodesL] using this, N3.out.below⟩
end Go.Proofs.Ytobbocolmlljdaa.P
namespace Go.Proofs.Ytobbocolmlljdaa.P
open Go.RowKit Go.Proofs.YtobbocolmlljdaaW.PrintWords Go.Proofs.YtobbocolmlljdaaW.PrintLast Go.Proofs.YtobbocolmlljdaaW.PrintMore Go.Proofs.YtobbocolmlljdaaW.HB
set_option linter.unusedVariables false
set_option linter.unusedSimpArgs false
def mendR (p : S27 × S27) : List Value := [(.int .i64 6), (.int .i64 p.1.f0), (.int .i64 p.1.f1), (.int .i64 p.2.f0), (.int .i64 p.2.f1), (.int .i64 0), (.int .u64 0), (.int .i64 0), (.int .i64 0), (.int .i64 0), (.int .i64 0), (.int .i64 0), (.int .i64 0), (.int .i64 0), (.int .i64 0), (.int .i64 0), (.int .i64 0), (.string ⟨#[]⟩), (.int .i64 0), (.int .i64 0), (.string ⟨#[]⟩), (.string ⟨#[]⟩), (.int .i64 0), (.int .i64 0), (.int .i64 0), (.string ⟨#[]⟩), (.bool false), (.int .i64 0), (.slice none 0 0), (.string ⟨#[]⟩), (.int .i64 0), (.int .i64 0), (.int .i64 0)]
def restR (a : S27) : List Value := [(.int .i64 8), (.int .i64 a.f0), (.int .i64 a.f1), (.int .i64 0), (.int .i64 0), (.int .i64 0), (.int .u64 0), (.int .i64 0), (.int .i64 0), (.int .i64 0), (.int .i64 0), (.int .i64 0), (.int .i64 0), (.int .i64 0), (.int .i64 0), (.int .i64 0), (.int .i64 0), (.string ⟨#[]⟩), (.int .i64 0), (.int .i64 0), (.string ⟨#[]⟩), (.string ⟨#[]⟩), (.int .i64 0), (.int .i64 0), (.int .i64 0), (.string ⟨#[]⟩), (.bool false), (.int .i64 0), (.slice none 0 0), (.string ⟨#[]⟩), (.int .i64 0), (.int .i64 0), (.int .i64 0)]
theorem mendR_ok (p : S27 × S27) : (mendR p).length = 33 ∧ ∀ u ∈ mendR p, u.oneCell' = true := ⟨rfl, by simp [mendR, Value.oneCell']⟩
theorem restR_ok (a : S27) : (restR a).length = 33 ∧ ∀ u ∈ restR a, u.oneCell' = true := ⟨rfl, by simp [restR, Value.oneCell']⟩
def pairsL : List S27 → List (List Value)
  | [] => []
  | a :: l => l.map (fun b => mendR (a, b)) ++ pairsL l
set_option maxRecDepth 100000 in
set_option maxHeartbeats 4000000 in
theorem heal_0 (A : Option Addr) (c : Nat) (w : World) (hr : Kd.C (Kd.int .i64) w A 1 [0]) (hc : 1 ≤ c) :
    Calls Try.prog 13 #[.agg #[.int .i64 1, .slice A 1 c, .int .i64 0, .int .i64 32]] w fun e w' => ∃ v, e = .returned v ∧ Kd.R kRaw 41 w' w.heap.size (fun _ => True) v (pairsL (nodesL 1 1 0) ++ (nodesL 1 1 0).map restR) ∧ Below w.heap.size w w' := by
  obtain ⟨all, hall⟩ : ∃ all, nodesL 1 1 0 = all := ⟨_, rfl⟩
  have NC := fun W : World => Aside0.mk (nodes.calls 1 1 0 32 A c W (by omega) (by omega) (by omega))
  have hn : all.length ≤ 30 := by rw [← hall]; decide
  rw [hall] at NC ⊢
  have HNL := Aside0.mk hn
  clear hall
  have HR := Aside0.mk hr
  have hu := Try.underlying47
  have hu2 := Try.underlying27
  have HB := Aside0.mk (Below.refl w.heap.size w)
  clear hr
  go_enter Try.func13, Try.ntmps13
  go_wp2_with (first
    | (go_at_call 22; refine (can_0 A c _ (Kd.C_alloc HR.out _) hc).mono ?_; rintro e w1 ⟨rfl, hb⟩; have HB1 := Aside0.mk (below_step (below_alloc HB.out _) hb); have hq0 : w1.cell? ⟨w.heap.size, 0, none⟩ = some (.int .i64 1) := (hb.cell (by simp)).trans (cell_fresh _ _ _ _ _ rfl); have hq1 : w1.cell? ⟨w.heap.size, 1, none⟩ = some (.slice A 1 c) := (hb.cell (by simp)).trans (cell_fresh _ _ _ _ _ rfl); have hq2 : w1.cell? ⟨w.heap.size, 2, none⟩ = some (.int .i64 0) := (hb.cell (by simp)).trans (cell_fresh _ _ _ _ _ rfl); have hq3 : w1.cell? ⟨w.heap.size, 3, none⟩ = some (.int .i64 32) := (hb.cell (by simp)).trans (cell_fresh _ _ _ _ _ rfl); clear hb)
    | (go_at_call 28; refine (NC w1).out.mono ?_; rintro e w2 ⟨v, rfl, hR, hb⟩; obtain ⟨An, cn, rfl⟩ := Kd.R_slice hR; have CN := Aside0.mk (Kd.R_reads' hR).2.2; have LN := (Kd.R_reads' hR).2.1; have HB2 := Aside0.mk (below_step HB1.out hb); clear hR hb))
  have R0 := Aside0.mk (Kd.R_nil kRaw 41 w2 w2.heap.size (fun _ => True))
  have D0 := Aside0.mk (Below.refl w2.heap.size w2)
  have LN' : (all.length : Int) ≤ (cn : Int) := by omega
  clear hq0 hq1 hq2 hq3
  go_loopw [3, 18] (fun v3 v18 w' => ∃ (x : Int) (out : List (List Value)), v18 = .int .i64 x ∧ Aside0 (0 ≤ x ∧ x ≤ all.length ∧ out.length ≤ 40 * x.toNat ∧ out ++ pairsL (all.drop x.toNat) = pairsL all) ∧ Aside0 (Kd.R kRaw 41 w' w2.heap.size (fun _ => True) v3 out) ∧ Aside0 (Below w2.heap.size w2 w')) (fun _ v18 _ => all.length - (intOf v18).toNat)
  case atStart => exact ⟨0, [], rfl, ⟨by omega, by omega, by simp, by simp⟩, R0, D0⟩
  case round =>
    clear R0 D0
    obtain ⟨x, out, rfl, hx, HRo, HBo⟩ := hrel
    by_cases b1 : x < (all.length : Int)
    · have hxx := hx.out
      have hn := HNL.out
      obtain ⟨ad, e, hc0, hc1⟩ := at_T27 (Kd.C_below CN.out HBo.out) x hxx.1 b1
      cases e
      have q1 := eq_true b1
      have p0 := eq_true hxx.1
      have hx1 : wrap64 (x + 1) = x + 1 := by unfold wrap64; omega
      have hx2 : x + 1 ≤ (all.length : Int) := by omega
      have hx3 : 0 ≤ x + 1 := by omega
      have hdrop : all.drop x.toNat = rd_T27 all x :: all.drop (x.toNat + 1) := by
        rw [List.drop_eq_getElem_cons (by omega)]; congr 1
        simp [rd_T27, List.getD_eq_getElem?_getD, List.getElem?_eq_getElem (show x.toNat < all.length by omega)]
      have HDR := Aside0.mk hdrop
      have HX1 := Aside0.mk hx1
      clear hdrop hx1 hxx hn
      generalize rd_T27 all x = a at *
      have hxx2 := hx.out
      have hlr : (all.drop (x.toNat + 1)).length = all.length - (x + 1).toNat := by rw [List.length_drop]; omega
      have ex1 : (x + 1).toNat = x.toNat + 1 := by omega
      have CDg := Kd.C_drop CN.out (m := (x + 1).toNat) (c := cn) (by omega) (by omega)
      rw [show (all.drop (x + 1).toNat).length = all.length - (x + 1).toNat from List.length_drop] at CDg
      rw [show all.drop (x + 1).toNat = all.drop (x.toNat + 1) from by rw [ex1]] at CDg
      replace hlr := Aside0.mk hlr
      clear ex1
      by_cases hcap : cn = (x + 1).toNat
      · rw [if_pos hcap] at CDg
        replace CDg := Aside0.mk CDg
        go_wp2
        have hb6 := Aside0.mk (World.alloc_heap_new wr (.cells #[.int .i64 a.f0, .int .i64 a.f1] 27))
        have R1 := Aside0.mk (Kd.R_alloc HRo.out (.cells #[.int .i64 a.f0, .int .i64 a.f1] 27))
        have B1 := Aside0.mk (below_alloc HBo.out (.cells #[.int .i64 a.f0, .int .i64 a.f1] 27))
        obtain ⟨b6, hb6e⟩ : ∃ b6, wr.heap.size = b6 := ⟨_, rfl⟩
        rw [hb6e] at hb6 ⊢
        clear hb6e
        generalize wr.alloc (.cells #[.int .i64 a.f0, .int .i64 a.f1] 27) = wl at *
        obtain ⟨rest, hrest⟩ : ∃ rest, all.drop (x.toNat + 1) = rest := ⟨_, rfl⟩
        have hmix := hx.out.2.2.2
        rw [HDR.out, pairsL, hrest] at hmix
        rw [hrest] at CDg hlr
        obtain ⟨m, hm⟩ : ∃ m, all.length - (x + 1).toNat = m := ⟨_, rfl⟩
        rw [hm] at CDg hlr ⊢
        have HMM := Aside0.mk hm
        have HRE := Aside0.mk hrest
        clear hm hrest
        have hm30 : m ≤ 30 := by have := HNL.out; have := HMM.out; omega
        have HMIX := Aside0.mk hmix
        clear hmix
        go_loopw [3, 28] (fun v3 v28 w' => ∃ (y : Int) (o2 : List (List Value)), v28 = .int .i64 y ∧ Aside0 (0 ≤ y ∧ y ≤ m ∧ o2.length ≤ 40 * x.toNat + y.toNat ∧ o2 ++ ((rest.drop y.toNat).map (fun b => mendR (a, b)) ++ pairsL rest) = pairsL all) ∧ Aside0 (Kd.R kRaw 41 w' w2.heap.size (fun _ => True) v3 o2) ∧ Aside0 (Below w2.heap.size w2 w') ∧ Aside0 (w'.heap[b6]? = some (.cells #[.int .i64 a.f0, .int .i64 a.f1] 27 (0, 0)))) (fun _ v28 _ => m - (intOf v28).toNat)
        case atStart => exact ⟨0, out, rfl, ⟨by omega, by omega, by have := hx.out; omega, by simpa using HMIX.out⟩, R1, B1, hb6⟩
        case round =>
          clear R1 B1 hb6
          obtain ⟨y, o2, rfl, hy, HR2, HB2', hb6⟩ := hrel
          by_cases b2 : y < (m : Int)
          · exfalso; have := HMM.out; have := hy.out; omega
          · have q2 := eq_false b2
            go_wp2
            have hyy := hy.out
            have hxx := hx.out
            have e1 : (x + 1).toNat = x.toNat + 1 := by omega
            refine ⟨⟨x + 1, o2, rfl, ⟨by omega, by omega, by omega, ?_⟩, HR2, HB2'⟩, by simp only [intOf]; omega⟩
            have hmx := hyy.2.2.2
            rw [List.drop_eq_nil_of_le (by have := hlr.out; omega), List.map_nil, List.nil_append] at hmx
            rw [e1, HRE.out]
            exact hmx
      · rw [if_neg hcap] at CDg
        replace CDg : Aside0 (Kd.C k27 w2 (some (ad.add ((x + 1).toNat * 2))) (all.length - (x + 1).toNat) (all.drop (x.toNat + 1))) := Aside0.mk CDg
        go_wp2
        have hb6 := Aside0.mk (World.alloc_heap_new wr (.cells #[.int .i64 a.f0, .int .i64 a.f1] 27))
        have R1 := Aside0.mk (Kd.R_alloc HRo.out (.cells #[.int .i64 a.f0, .int .i64 a.f1] 27))
        have B1 := Aside0.mk (below_alloc HBo.out (.cells #[.int .i64 a.f0, .int .i64 a.f1] 27))
        obtain ⟨b6, hb6e⟩ : ∃ b6, wr.heap.size = b6 := ⟨_, rfl⟩
        rw [hb6e] at hb6 ⊢
        clear hb6e
        generalize wr.alloc (.cells #[.int .i64 a.f0, .int .i64 a.f1] 27) = wl at *
        obtain ⟨rest, hrest⟩ : ∃ rest, all.drop (x.toNat + 1) = rest := ⟨_, rfl⟩
        have hmix := hx.out.2.2.2
        rw [HDR.out, pairsL, hrest] at hmix
        rw [hrest] at CDg hlr
        obtain ⟨m, hm⟩ : ∃ m, all.length - (x + 1).toNat = m := ⟨_, rfl⟩
        rw [hm] at CDg hlr ⊢
        have HMM := Aside0.mk hm
        have HRE := Aside0.mk hrest
        clear hm hrest
        have hm30 : m ≤ 30 := by have := HNL.out; have := HMM.out; omega
        have HMIX := Aside0.mk hmix
        clear hmix
        go_loopw [3, 28] (fun v3 v28 w' => ∃ (y : Int) (o2 : List (List Value)), v28 = .int .i64 y ∧ Aside0 (0 ≤ y ∧ y ≤ m ∧ o2.length ≤ 40 * x.toNat + y.toNat ∧ o2 ++ ((rest.drop y.toNat).map (fun b => mendR (a, b)) ++ pairsL rest) = pairsL all) ∧ Aside0 (Kd.R kRaw 41 w' w2.heap.size (fun _ => True) v3 o2) ∧ Aside0 (Below w2.heap.size w2 w') ∧ Aside0 (w'.heap[b6]? = some (.cells #[.int .i64 a.f0, .int .i64 a.f1] 27 (0, 0)))) (fun _ v28 _ => m - (intOf v28).toNat)
        case atStart => exact ⟨0, out, rfl, ⟨by omega, by omega, by have := hx.out; omega, by simpa using HMIX.out⟩, R1, B1, hb6⟩
        case round =>
          clear R1 B1 hb6
          obtain ⟨y, o2, rfl, hy, HR2, HB2', hb6⟩ := hrel
          by_cases b2 : y < (m : Int)
          · have hyy := hy.out
            obtain ⟨ad3, e3, hd0, hd1⟩ := at_T27 (Kd.C_below CDg.out HB2'.out) y hyy.1 b2
            cases e3
            have q2 := eq_true b2
            have p2 := eq_true hyy.1
            have hy1 : wrap64 (y + 1) = y + 1 := by unfold wrap64; omega
            have hdr : rest.drop y.toNat = rd_T27 rest y :: rest.drop (y.toNat + 1) := by
              have hl := hlr.out
              rw [List.drop_eq_getElem_cons (by omega)]; congr 1
              simp [rd_T27, List.getD_eq_getElem?_getD, List.getElem?_eq_getElem (show y.toNat < rest.length by omega)]
            have HDR2 := Aside0.mk hdr
            have HY1 := Aside0.mk hy1
            have h60 : wr.cell? ⟨b6, 0, none⟩ = some (.int .i64 a.f0) := by simp [World.cell?, hb6.out]
            have h61 : wr.cell? ⟨b6, 1, none⟩ = some (.int .i64 a.f1) := by simp [World.cell?, hb6.out]
            clear hdr hy1 hyy
            generalize rd_T27 rest y = bb at *
            have g60 := Lib.cell?_alloc_some (W := wr) (.cells #[.int .i64 bb.f0, .int .i64 bb.f1] 27) h60
            have g61 := Lib.cell?_alloc_some (W := wr) (.cells #[.int .i64 bb.f0, .int .i64 bb.f1] 27) h61
            have h6lt := (Array.getElem?_eq_some_iff.1 hb6.out).1
            have h6al : (wr.alloc (.cells #[.int .i64 bb.f0, .int .i64 bb.f1] 27)).heap[b6]? = some (.cells #[.int .i64 a.f0, .int .i64 a.f1] 27 (0, 0)) := (Below.heap_alloc _ _ _ h6lt).trans hb6.out
            have h6ne := Kd.R_ne HR2.out hb6.out (by decide)
            have hox := Aside0.mk (And.intro hx.out.2.1 HNL.out)
            go_wp2_with (first
              | ((with_reducible refine gate_builtin (b := .append) (xs := #[.tmp 32, .tmp 36]) rfl ?_); go_loud (refine Kd.R_append kRaw (w0 := w2) w2.heap.size rfl (.tmp 32) (.tmp 36) 22 41 (.agg #[(.int .i64 0), (.int .i64 0), (.int .i64 0), (.int .i64 0), (.int .i64 0), (.int .i64 0), (.int .u64 0), (.int .i64 0), (.int .i64 0), (.int .i64 0), (.int .i64 0), (.int .i64 0), (.int .i64 0), (.int .i64 0), (.int .i64 0), (.int .i64 0), (.int .i64 0), (.string ⟨#[]⟩), (.int .i64 0), (.int .i64 0), (.string ⟨#[]⟩), (.string ⟨#[]⟩), (.int .i64 0), (.int .i64 0), (.int .i64 0), (.string ⟨#[]⟩), (.bool false), (.int .i64 0), (.slice none 0 0), (.string ⟨#[]⟩), (.int .i64 0), (.int .i64 0), (.int .i64 0)]) 320 rfl Try.underlying22 info41 rfl (by decide) (by omega) _ o2 (mendR (a, bb)) (mendR (a, bb)) (fun _ => True) (fun _ => False) rfl ?hx ⟨rfl, (mendR_ok _).1, (mendR_ok _).2⟩ (fun _ h => h.elim) (fun _ _ => trivial) (Kd.R_alloc HR2.out _) (below_alloc HB2'.out _) (below_alloc HB2'.out _).size ?hl ?_); go_loud (case hx => exact congrArg (fun k => Value.slice (some ⟨k, 0, none⟩) 1 1) (World.size_alloc _ _).symm); go_loud (case hl => have := hy.out; have := hox.out; omega); intro v1 w5 hr hb hg hat; go_loud (have R5 := Aside0.mk hr; have B5 := Aside0.mk hb; have hb65 := Aside0.mk ((hg.block b6 (Array.getElem?_eq_some_iff.1 h6al).1 h6ne).trans h6al); clear hr hb hg hat)))
            have hyy := hy.out
            have e1 : (y + 1).toNat = y.toNat + 1 := by omega
            refine ⟨⟨y + 1, o2 ++ [mendR (a, bb)], by rw [HY1.out], ⟨by omega, by omega, by rw [List.length_append]; simp; omega, ?_⟩, R5, B5, hb65⟩, by rw [HY1.out]; simp only [intOf]; omega⟩
            have hmx := hyy.2.2.2
            rw [HDR2.out, List.map_cons] at hmx
            rw [e1, ← hmx]
            simp
          · have q2 := eq_false b2
            go_wp2
            have hyy := hy.out
            have hxx := hx.out
            have e1 : (x + 1).toNat = x.toNat + 1 := by omega
            refine ⟨⟨x + 1, o2, rfl, ⟨by omega, by omega, by omega, ?_⟩, HR2, HB2'⟩, by simp only [intOf]; omega⟩
            have hmx := hyy.2.2.2
            rw [List.drop_eq_nil_of_le (by have := hlr.out; omega), List.map_nil, List.nil_append] at hmx
            rw [e1, HRE.out]
            exact hmx
    · have q1 := eq_false b1
      go_wp2
      have hxe : out = pairsL all := by have hxx := hx.out; have := hxx.2.2.2; rw [List.drop_eq_nil_of_le (by omega)] at this; simpa [pairsL] using this
      have HXE := Aside0.mk hxe
      have hol : out.length ≤ 1200 := by have hxx := hx.out; have := HNL.out; omega
      replace hol := Aside0.mk hol
      clear hxe
      go_loopw [3, 42] (fun v3 v42 w' => ∃ (z : Int) (o2 : List (List Value)), v42 = .int .i64 z ∧ Aside0 (0 ≤ z ∧ z ≤ all.length ∧ o2.length ≤ 1200 + z.toNat ∧ o2 ++ (all.drop z.toNat).map restR = pairsL all ++ all.map restR) ∧ Aside0 (Kd.R kRaw 41 w' w2.heap.size (fun _ => True) v3 o2) ∧ Aside0 (Below w2.heap.size w2 w')) (fun _ v42 _ => all.length - (intOf v42).toNat)
      case atStart => exact ⟨0, out, rfl, ⟨by omega, by omega, by have := hol.out; omega, by rw [HXE.out]; simp⟩, HRo, HBo⟩
      case round =>
        clear HRo HBo
        obtain ⟨z, o2, rfl, hz, HR2, HB2'⟩ := hrel
        by_cases b2 : z < (all.length : Int)
        · have hzz := hz.out
          obtain ⟨ad3, e3, hd0, hd1⟩ := at_T27 (Kd.C_below CN.out HB2'.out) z hzz.1 b2
          cases e3
          have q2 := eq_true b2
          have p2 := eq_true hzz.1
          have hy1 : wrap64 (z + 1) = z + 1 := by have := HNL.out; unfold wrap64; omega
          have hdr : all.drop z.toNat = rd_T27 all z :: all.drop (z.toNat + 1) := by
            rw [List.drop_eq_getElem_cons (by omega)]; congr 1
            simp [rd_T27, List.getD_eq_getElem?_getD, List.getElem?_eq_getElem (show z.toNat < all.length by omega)]
          have HDR2 := Aside0.mk hdr
          have HY1 := Aside0.mk hy1
          clear hdr hy1 hzz
          generalize rd_T27 all z = bb at *
          have hox := HNL
          go_wp2_with (first
            | ((with_reducible refine gate_builtin (b := .append) (xs := #[.tmp 46, .tmp 49]) rfl ?_); go_loud (refine Kd.R_append kRaw (w0 := w2) w2.heap.size rfl (.tmp 46) (.tmp 49) 22 41 (.agg #[(.int .i64 0), (.int .i64 0), (.int .i64 0), (.int .i64 0), (.int .i64 0), (.int .i64 0), (.int .u64 0), (.int .i64 0), (.int .i64 0), (.int .i64 0), (.int .i64 0), (.int .i64 0), (.int .i64 0), (.int .i64 0), (.int .i64 0), (.int .i64 0), (.int .i64 0), (.string ⟨#[]⟩), (.int .i64 0), (.int .i64 0), (.string ⟨#[]⟩), (.string ⟨#[]⟩), (.int .i64 0), (.int .i64 0), (.int .i64 0), (.string ⟨#[]⟩), (.bool false), (.int .i64 0), (.slice none 0 0), (.string ⟨#[]⟩), (.int .i64 0), (.int .i64 0), (.int .i64 0)]) 320 rfl Try.underlying22 info41 rfl (by decide) (by omega) _ o2 (restR bb) (restR bb) (fun _ => True) (fun _ => False) rfl ?hx ⟨rfl, (restR_ok _).1, (restR_ok _).2⟩ (fun _ h => h.elim) (fun _ _ => trivial) (Kd.R_alloc HR2.out _) (below_alloc HB2'.out _) (below_alloc HB2'.out _).size ?hl ?_); go_loud (case hx => exact congrArg (fun k => Value.slice (some ⟨k, 0, none⟩) 1 1) (World.size_alloc _ _).symm); go_loud (case hl => have := hz.out; have := hox.out; omega); intro v1 w5 hr hb hg hat; go_loud (have R5 := Aside0.mk hr; have B5 := Aside0.mk hb; clear hr hb hg hat)))
          have hyy := hz.out
          have e1 : (z + 1).toNat = z.toNat + 1 := by omega
          refine ⟨⟨z + 1, o2 ++ [restR bb], by rw [HY1.out], ⟨by omega, by omega, by rw [List.length_append]; simp; omega, ?_⟩, R5, B5⟩, by rw [HY1.out]; simp only [intOf]; omega⟩
          have hmx := hyy.2.2.2
          rw [HDR2.out, List.map_cons] at hmx
          rw [e1, ← hmx]
          simp
        · have q2 := eq_false b2
          go_wp2
          go_ret
          have hzz := hz.out
          have hmx := hzz.2.2.2
          rw [List.drop_eq_nil_of_le (by omega), List.map_nil, List.append_nil] at hmx
          exact ⟨_, rfl, hmx ▸ Kd.R_lower HR2.out HB2.out.size, below_step HB2.out HB2'.out⟩
end Go.Proofs.Ytobbocolmlljdaa.P
namespace Go.Proofs.Ytobbocolmlljdaa.P
open Go.RowKit Go.Proofs.YtobbocolmlljdaaW.PrintWords Go.Proofs.YtobbocolmlljdaaW.PrintLast Go.Proofs.YtobbocolmlljdaaW.PrintMore Go.Proofs.YtobbocolmlljdaaW.HB
set_option linter.unusedVariables false
set_option linter.unusedSimpArgs false
def poolR (p : S29) : List Value := [(.int .i64 10), (.int .i64 1), (.int .i64 0), (.int .i64 0), (.int .i64 0), (.int .i64 0), (.int .u64 0), (.int .i64 5), (.int .i64 0), (.int .i64 0), (.int .i64 0), (.int .i64 p.f0), (.int .i64 p.f1), (.int .i64 p.f2), (.int .i64 p.f3), (.int .i64 0), (.int .i64 0), (.string ⟨#[]⟩), (.int .i64 0), (.int .i64 0), (.string ⟨#[]⟩), (.string ⟨#[]⟩), (.int .i64 0), (.int .i64 0), (.int .i64 0), (.string ⟨#[]⟩), (.bool false), (.int .i64 0), (.slice none 0 0), (.string ⟨#[]⟩), (.int .i64 0), (.int .i64 0), (.int .i64 0)]
theorem poolR_ok (p : S29) : (poolR p).length = 33 ∧ ∀ u ∈ poolR p, u.oneCell' = true := ⟨rfl, by simp [poolR, Value.oneCell']⟩
set_option maxRecDepth 100000 in
set_option maxHeartbeats 4000000 in
theorem basic_0 (A : Option Addr) (c : Nat) (Ap : Option Addr) (cp : Nat) (ps : List S29) (w : World) (hr : Kd.C (Kd.int .i64) w A 1 [0]) (hc : 1 ≤ c) (hp : Kd.C k29 w Ap ps.length ps) (hcp : ps.length ≤ cp) (hpn : ps.length ≤ 30) :
    Calls Try.prog 10 #[.agg #[.int .i64 1, .slice A 1 c, .int .i64 0, .int .i64 32], .slice Ap ps.length cp] w fun e w' => ∃ v, e = .returned v ∧ Kd.R kRaw 41 w' w.heap.size (fun _ => True) v (List.replicate 8 rowR ++ ps.map poolR ++ List.replicate 12 rowR) ∧ Below w.heap.size w w' := by
  have HR := Aside0.mk hr
  have HP := Aside0.mk hp
  have HN := Aside0.mk hpn
  have hu := Try.underlying47
  have hu2 := Try.underlying29
  have HB := Aside0.mk (Below.refl w.heap.size w)
  clear hr hp hpn
  go_enter Try.func10, Try.ntmps10
  go_wp2_with (first
    | (go_at_call 22; refine (can_0 A c _ (Kd.C_alloc HR.out _) hc).mono ?_; rintro e w1 ⟨rfl, hb⟩; have HB1 := Aside0.mk (below_step (below_alloc HB.out _) hb); clear hb)
    | (go_at_call 23; refine (rounds.calls 8 (by omega) w1).mono ?_; rintro e w2 ⟨v, rfl, hR, hb⟩; have R2 := Aside0.mk (Kd.R_lower hR HB1.out.size); have HB2 := Aside0.mk (below_step HB1.out hb); clear hR hb))
  replace R2 : Aside0 (Kd.R kRaw 41 w2 w.heap.size (fun _ => True) v (List.replicate 8 rowR)) := R2
  generalize hrep : List.replicate 8 rowR = rep at *
  have hrl : rep.length = 8 := by rw [← hrep, List.length_replicate]
  replace hrl := Aside0.mk hrl
  replace hrep := Aside0.mk hrep
  go_loopw [5, 14] (fun v5 v14 w' => ∃ (x : Int) (o2 : List (List Value)), v14 = .int .i64 x ∧ Aside0 (0 ≤ x ∧ x ≤ ps.length ∧ o2.length = 8 + x.toNat ∧ o2 ++ (ps.drop x.toNat).map poolR = rep ++ ps.map poolR) ∧ Aside0 (Kd.R kRaw 41 w' w.heap.size (fun _ => True) v5 o2) ∧ Aside0 (Below w.heap.size w w')) (fun _ v14 _ => ps.length - (intOf v14).toNat)
  case atStart => exact ⟨0, rep, rfl, ⟨by omega, by omega, by have := hrl.out; omega, by simp⟩, R2, HB2⟩
  case round =>
    clear R2 HB2
    obtain ⟨x, o2, rfl, hx, HR2, HB2⟩ := hrel
    by_cases b1 : x < (ps.length : Int)
    · have hxx := hx.out
      obtain ⟨ad, e, hc0, hc1, hc2, hc3⟩ := at_T29 (Kd.C_below HP.out HB2.out) x hxx.1 b1
      cases e
      have q1 := eq_true b1
      have p1 := eq_true hxx.1
      have hx1 : wrap64 (x + 1) = x + 1 := by have := HN.out; unfold wrap64; omega
      have hdr : ps.drop x.toNat = rd_T29 ps x :: ps.drop (x.toNat + 1) := by
        rw [List.drop_eq_getElem_cons (by omega)]; congr 1
        simp [rd_T29, List.getD_eq_getElem?_getD, List.getElem?_eq_getElem (show x.toNat < ps.length by omega)]
      have HDR := Aside0.mk hdr
      have HX1 := Aside0.mk hx1
      clear hdr hx1 hxx
      generalize rd_T29 ps x = p at *
      go_wp2_with (first
        | ((with_reducible refine gate_builtin (b := .append) (xs := #[.tmp 18, .tmp 23]) rfl ?_); refine Kd.R_append kRaw (w0 := w) w.heap.size rfl (.tmp 18) (.tmp 23) 22 41 (.agg #[(.int .i64 0), (.int .i64 0), (.int .i64 0), (.int .i64 0), (.int .i64 0), (.int .i64 0), (.int .u64 0), (.int .i64 0), (.int .i64 0), (.int .i64 0), (.int .i64 0), (.int .i64 0), (.int .i64 0), (.int .i64 0), (.int .i64 0), (.int .i64 0), (.int .i64 0), (.string ⟨#[]⟩), (.int .i64 0), (.int .i64 0), (.string ⟨#[]⟩), (.string ⟨#[]⟩), (.int .i64 0), (.int .i64 0), (.int .i64 0), (.string ⟨#[]⟩), (.bool false), (.int .i64 0), (.slice none 0 0), (.string ⟨#[]⟩), (.int .i64 0), (.int .i64 0), (.int .i64 0)]) 320 rfl Try.underlying22 info41 rfl (by decide) (by omega) _ o2 (poolR p) (poolR p) (fun _ => True) (fun _ => False) rfl ?hx ⟨rfl, (poolR_ok _).1, (poolR_ok _).2⟩ (fun _ h => h.elim) (fun _ _ => trivial) (Kd.R_alloc HR2.out _) (below_alloc HB2.out _) (below_alloc HB2.out _).size ?hl ?_; (case hx => exact congrArg (fun k => Value.slice (some ⟨k, 0, none⟩) 1 1) (World.size_alloc _ _).symm); (case hl => have := hx.out; have := HN.out; omega); intro v1 w5 hr hb hg hat; have R5 := Aside0.mk hr; have B5 := Aside0.mk hb; clear hr hb hg hat))
      have hxx := hx.out
      have e1 : (x + 1).toNat = x.toNat + 1 := by omega
      refine ⟨⟨x + 1, o2 ++ [poolR p], by rw [HX1.out], ⟨by omega, by omega, by rw [List.length_append]; simp; omega, ?_⟩, R5, B5⟩, by rw [HX1.out]; simp only [intOf]; omega⟩
      have hmx := hxx.2.2.2
      rw [HDR.out, List.map_cons] at hmx
      rw [e1, ← hmx]
      simp
    · have q1 := eq_false b1
      have hxe : o2 = rep ++ ps.map poolR := by have hxx := hx.out; have := hxx.2.2.2; rw [List.drop_eq_nil_of_le (by omega)] at this; simpa using this
      have HXE := Aside0.mk hxe
      have hol := Aside0.mk (show o2.length ≤ 40 from by have := hx.out; have := HN.out; omega)
      clear hxe
      go_wp2_with (first
        | (go_at_call 23; refine (rounds.calls 12 (by omega) _).mono ?_; rintro e w6 ⟨v6, rfl, hR, hb⟩; obtain ⟨A6, c6, rfl⟩ := Kd.R_slice hR; have C6 := Aside0.mk (Kd.R_reads' hR).2.2; have R6 := Aside0.mk (Kd.R_step HR2.out (fun k _ hk => hb.block k hk)); have B6 := Aside0.mk (below_step HB2.out hb); clear hR hb)
        | ((with_reducible refine gate_builtin (b := .append) (xs := #[.tmp 26, .tmp 27]) rfl ?_); refine Kd.R_append_rows kRaw (w0 := w) w.heap.size rfl (.tmp 26) (.tmp 27) 22 41 (.agg #[(.int .i64 0), (.int .i64 0), (.int .i64 0), (.int .i64 0), (.int .i64 0), (.int .i64 0), (.int .u64 0), (.int .i64 0), (.int .i64 0), (.int .i64 0), (.int .i64 0), (.int .i64 0), (.int .i64 0), (.int .i64 0), (.int .i64 0), (.int .i64 0), (.int .i64 0), (.string ⟨#[]⟩), (.int .i64 0), (.int .i64 0), (.string ⟨#[]⟩), (.string ⟨#[]⟩), (.int .i64 0), (.int .i64 0), (.int .i64 0), (.string ⟨#[]⟩), (.bool false), (.int .i64 0), (.slice none 0 0), (.string ⟨#[]⟩), (.int .i64 0), (.int .i64 0), (.int .i64 0)]) 320 rfl Try.underlying22 info41 rfl (by decide) (by omega) _ o2 (List.replicate 12 rowR) _ _ _ (fun _ => True) (fun _ => False) rfl rfl R6.out C6.out (fun _ _ h => h) (fun _ h => h.elim) (fun _ _ => trivial) B6.out B6.out.size ?hl ?_; (case hl => have := hol.out; simp; omega); intro v7 w7 hr hb hg hat; have R7 := Aside0.mk hr; have B7 := Aside0.mk hb; clear hr hb hg hat))
      go_ret
      have h7 := R7.out
      rw [HXE.out, ← hrep.out] at h7
      exact ⟨_, rfl, h7, B7.out⟩
end Go.Proofs.Ytobbocolmlljdaa.P
namespace Go.Proofs.Ytobbocolmlljdaa.P
open Go.RowKit Go.Proofs.YtobbocolmlljdaaW.HB
set_option linter.unusedVariables false
def SeqOne (F : Fence) (n : Nat) (P : Program) (g : Nat) (lb vs : Array Value) (w : World) : Prop :=
  ∀ (l : Nat) (J0 J1 : World → Prop) (W : World), Below w.heap.size w W →
    (∀ W1, J0 W1 → YieldAt F (n - 1) P l vs W1 fun e W' => e = .returned (.bool false) ∧ J1 W') → J0 W →
    CallsIn F n P g (#[.func (.yield l) #[] #[]] ++ lb) W fun e W' => (∃ v, e = .returned v) ∧ J1 W'
theorem rf_one {F : Fence} {n : Nat} {P : Program} {g : Operand} {ps : Array Tmp} {assign body : Code} {Q : Exit → Act → World → Prop} {a : Act} {w : World}
    (hro : F.round = none) (h1 : 1 ≤ n) {gf : Nat} {lb : Array Value} (hg : a.eval g = .func (.func gf) #[] lb) (hFg : F.fn gf) (eg : ∀ args w, (callFunc gf args).run P w = .ok (.enter gf args) w)
    {vs : Array Value} {w0 : World} (hseq : SeqOne F (n - 1) P gf lb vs w0) (hb0 : Below w0.heap.size w0 w) (hps : vs.size = ps.size)
    (Ix : World → Prop) (hIx : ∀ (W : World) (l : Nat) (o o' : Obj), w.heap.size ≤ l → W.heap[l]? = some o → o.isCells = false → Ix W → Ix (W.putObj l o'))
    (hround : ∀ (l : Nat) (W : World), w.heap.size ≤ l → Below w.heap.size w W → (∃ r, W.heap[l]? = some (.loop r)) →
      assign.wpIn (F.inRound l) (n - 1 - 1) P (Exit.then (fun a1 W1 => KeepsFrom w.heap.size W W1 ∧
        ∀ o' : Obj, body.wpIn (F.inRound l) (n - 1 - 1) P (fun e _ W' => e = .ret ∧ KeepsFrom w.heap.size (W1.putObj l o') W' ∧ Ix W') a1 (W1.putObj l o')) (fun _ _ _ => False))
        { tmps := (ps.zip vs).foldl (fun t (p, v) => t.setIfInBounds p v) a.tmps, defers := [] } W)
    (hstop : ∀ (D : Nat) (W : World), w.heap.size ≤ D → Ix W → W.heap[D]? = some (.deferred (some [])) → Code.ret.wpIn F n P Q { a with defers := { target := .collected D, args := #[] } :: a.defers } W) :
    (Code.rangeFunc g ps assign body).wpIn F n P Q a w := by
  refine wpIn_rangeFunc (fun fn hfn => ?_)
  rw [hro]
  have hrun := run_enterLoop_outer (P := P) (w := w) fn a.tmps ps assign body
  obtain ⟨rc, hrc⟩ : ∃ rc : LoopState → Option Code → Loop, rc = fun st pe => { state := st, pending := pe, fn, tmps := a.tmps, params := ps, assign, body, defers := w.heap.size } := ⟨_, rfl⟩
  have hrc0 : ({ state := .ready, pending := none, fn, tmps := a.tmps, params := ps, assign, body, defers := w.heap.size } : Loop) = rc .ready none := by rw [hrc]
  rw [hrc0] at hrun
  have hsz : ((w.alloc (.deferred (some []))).alloc (.loop (rc .ready none))).heap.size = w.heap.size + 2 := by simp
  have hL : ((w.alloc (.deferred (some []))).alloc (.loop (rc .ready none))).heap[w.heap.size + 1]? = some (.loop (rc .ready none)) := by
    have := World.alloc_heap_new (w.alloc (.deferred (some []))) (.loop (rc .ready none)); rwa [World.size_alloc] at this
  have hD : ((w.alloc (.deferred (some []))).alloc (.loop (rc .ready none))).heap[w.heap.size]? = some (.deferred (some [])) := (Below.heap_alloc _ _ _ (by simp)).trans (World.alloc_heap_new w _)
  have hbw : Below w.heap.size w ((w.alloc (.deferred (some []))).alloc (.loop (rc .ready none))) := ((Below.refl _ w).alloc (Nat.le_refl _) _).alloc (by simp) _
  have hBW : Below w0.heap.size w0 ((w.alloc (.deferred (some []))).alloc (.loop (rc .ready none))) := hb0.trans (hbw.mono hb0.size)
  generalize (w.alloc (.deferred (some []))).alloc (.loop (rc .ready none)) = W1 at hrun hsz hL hD hbw hBW
  refine ⟨_, _, W1, { target := .fn (.func gf) lb, args := #[.func (.yield (w.heap.size + 1)) #[] #[]] }, W1, gf, #[.func (.yield (w.heap.size + 1)) #[] #[]] ++ lb, W1, hrun, ?_, ?_, ?_, fun _ => h1, ?_⟩
  · simp only [resolve, hg]
    simp [go_sem]
  · intro f' hf'; simp [Target.leads] at hf'; subst hf'; exact hFg
  · simp [invoke, go_sem, eg]
  refine (hseq (w.heap.size + 1) (fun W => W = W1) (fun W => Ix W ∧ W.heap[w.heap.size + 1]? = some (.loop (rc .done (some .ret))) ∧ W.heap[w.heap.size]? = some (.deferred (some []))) W1 hBW ?_ rfl).mono ?_
  · rintro W rfl
    have hy := run_yield (P := P) (args := vs) hL (by rw [hrc]; exact hps)
    rw [hrc] at hy
    refine ⟨fn, _, assign, body, hy, roundIn_of_wpIn hfn (wpIn_mono (hround _ W (by omega) hbw ⟨_, hL⟩) ?_)⟩
    rintro e a1 W2 h2
    cases e with
    | normal =>
      obtain ⟨k2, hb⟩ := h2
      have hl2 := k2.same _ _ (by omega) hL rfl
      have hd2 := k2.same _ _ (Nat.le_refl _) hD rfl
      refine ⟨_, run_beginRound hl2 (by rw [hrc]), ?_⟩
      have hlt2 : w.heap.size + 1 < W2.heap.size := (Array.getElem?_eq_some_iff.1 hl2).1
      have hl3 : (W2.putObj (w.heap.size + 1) (.loop { rc .ready none with state := .busy })).heap[w.heap.size + 1]? = some (.loop { rc .ready none with state := .busy }) := World.putObj_heap_same hlt2
      have hd3 : (W2.putObj (w.heap.size + 1) (.loop { rc .ready none with state := .busy })).heap[w.heap.size]? = some (.deferred (some [])) := (World.putObj_heap_other (by omega)).trans hd2
      refine wpIn_mono (hb _) ?_
      rintro e a3 W4 ⟨rfl, k4, hi4⟩
      have hl4 := k4.same _ _ (by omega) hl3 rfl
      have hd4 := k4.same _ _ (Nat.le_refl _) hd3 rfl
      have hr := run_endRound (P := P) (some .ret) hl4
      have er : ({ { rc .ready none with state := .busy } with state := if (some Code.ret : Option Code).isNone then .ready else .done, pending := some .ret } : Loop) = rc .done (some .ret) := by rw [hrc]; rfl
      rw [er] at hr
      exact ⟨_, _, hr, rfl, hIx _ _ _ _ (by omega) hl4 rfl hi4, World.putObj_heap_same (Array.getElem?_eq_some_iff.1 hl4).1, (World.putObj_heap_other (by omega)).trans hd4⟩
    | _ => exact h2.elim
  · rintro e W2 ⟨⟨v, rfl⟩, hi, hl, hd⟩
    exact ⟨some .ret, _, by have := run_endLoop (P := P) hl (by rw [hrc]; simp); rw [hrc] at this; exact this, hstop _ _ (Nat.le_refl _) (hIx _ _ _ _ (by omega) hl rfl hi) ((World.putObj_heap_other (by omega)).trans hd)⟩
end Go.Proofs.Ytobbocolmlljdaa.P
namespace Go.Proofs.Ytobbocolmlljdaa.P
open Go.RowKit Go.Proofs.YtobbocolmlljdaaW.PrintWords Go.Proofs.YtobbocolmlljdaaW.PrintLast Go.Proofs.YtobbocolmlljdaaW.PrintMore Go.Proofs.YtobbocolmlljdaaW.HB
set_option linter.unusedVariables false
set_option linter.unusedSimpArgs false
attribute [local go_sem] Oper.semAt_some
set_option maxRecDepth 100000 in
theorem numbers_1_in (x : Int) (l b : Nat) (J0 J1 : World → Prop) (W : World) (hB : W.cell? ⟨b, 0, none⟩ = some (.int .u64 x))
    (hY : ∀ W1, J0 W1 → YieldAt Fence.wide 7 Try.prog l #[.int .u64 (nx x / 8589934592)] W1 fun e W' => e = .returned (.bool false) ∧ J1 W') (h0 : J0 W) :
    CallsIn Fence.wide 8 Try.prog 55 #[.func (.yield l) #[] #[], .pointer (some ⟨b, 0, none⟩)] W fun e W' => (∃ v, e = .returned v) ∧ J1 W' := by
  refine callsIn_of_wp Try.func55 rfl trivial ?_ rfl
  simp only [Try.ntmps55, List.size_toArray, List.length_cons, List.length_nil, Nat.reduceAdd, Nat.reduceSub, Array.replicate_succ, Array.replicate_zero, List.push_toArray, List.append_toArray, List.nil_append, List.cons_append]
  have HJ := Aside0.mk h0
  clear h0
  obtain ⟨N, hN⟩ : ∃ N, nx x = N := ⟨_, rfl⟩
  rw [hN] at hY
  have HN := Aside0.mk hN
  clear hN
  gi_wp2
  gi_loopw [3] (fun v3 w' => v3 = .int .u64 N ∧ Aside0 (J0 w')) (fun _ _ => 0)
  case atStart => exact ⟨congrArg _ HN.out, HJ⟩
  case round =>
    clear HJ
    obtain ⟨rfl, HJ⟩ := hrel
    obtain ⟨fn, tmps, assign, body, hy, hR⟩ := hY _ HJ.out
    clear hY
    gi_wp2
    refine hR.mono ?_
    rintro e W5 ⟨rfl, h5⟩
    have H5 := Aside0.mk h5
    clear h5 hR hy
    gi_wp2
    go_end0
    exact ⟨⟨_, rfl⟩, H5.out⟩
theorem numbers_in (x : Int) (w : World) :
    CallsIn Fence.wide 8 Try.prog 45 #[.int .u64 x] w fun e w' => e = .returned (.func (.func 55) #[] #[.pointer (some ⟨w.heap.size, 0, none⟩)]) ∧ w' = w.alloc (.cells #[.int .u64 x] 23) := by
  refine callsIn_of_wp Try.func45 rfl trivial ?_ rfl
  simp only [Try.ntmps45, List.size_toArray, List.length_cons, List.length_nil, Nat.reduceAdd, Nat.reduceSub, Array.replicate_succ, Array.replicate_zero, List.push_toArray, List.append_toArray, List.nil_append, List.cons_append]
  gi_wp2
  go_ret
  exact ⟨rfl, rfl⟩
set_option maxRecDepth 100000 in
set_option maxHeartbeats 4000000 in
theorem number_in (x : Int) (w : World) :
    CallsIn Fence.wide 9 Try.prog 21 #[.int .u64 x, .int .i64 1] w fun e w' => e = .returned (.int .u64 (nx x / 8589934592)) ∧ Below w.heap.size w w' := by
  refine callsIn_of_wp_marks Try.func21 rfl trivial ?_ rfl
  simp only [Try.ntmps21, List.size_toArray, List.length_cons, List.length_nil, Nat.reduceAdd, Nat.reduceSub, Array.replicate_succ, Array.replicate_zero, List.push_toArray, List.append_toArray, List.nil_append, List.cons_append]
  gi_wp2_with (refine ⟨trivial, ?_⟩; gi_at_call 45; refine (numbers_in x _).mono ?_; rintro e w' ⟨rfl, rfl⟩)
  obtain ⟨wl, hwl⟩ : ∃ wl, wl = (((w.alloc (.cells #[.int .i64 1] 3)).alloc (.cells #[.int .u64 0] 23)).alloc (.cells #[.int .u64 x] 23)) := ⟨_, rfl⟩
  rw [← hwl]
  have hsz : wl.heap.size = w.heap.size + 3 := by rw [hwl]; simp
  have hbw : Below w.heap.size w wl := by rw [hwl]; exact below_alloc (below_alloc (below_alloc (Below.refl _ _) _) _) _
  have hk0 : Boxed wl w.heap.size 3 (.int .i64 1) := by rw [hwl]; exact ((Boxed.new w _ _).alloc _).alloc _
  have hr0 : Boxed wl (w.heap.size + 1) 23 (.int .u64 0) := by
    have := (Boxed.new (w.alloc (.cells #[.int .i64 1] 3)) 23 (.int .u64 0)).alloc (.cells #[.int .u64 x] 23)
    rw [World.size_alloc] at this; rw [hwl]; exact this
  have hx0 : wl.cell? ⟨w.heap.size + 1 + 1, 0, none⟩ = some (.int .u64 x) := by
    have := (Boxed.new ((w.alloc (.cells #[.int .i64 1] 3)).alloc (.cells #[.int .u64 0] 23)) 23 (.int .u64 x)).cell
    rw [World.size_alloc, World.size_alloc] at this; rw [hwl]; exact this
  clear hwl
  obtain ⟨r, hrd⟩ : ∃ r, nx x / 8589934592 = r := ⟨_, rfl⟩
  have HSEQ : SeqOne Fence.wide 8 Try.prog 55 #[.pointer (some ⟨w.heap.size + 1 + 1, 0, none⟩)] #[.int .u64 r] wl := fun l J0 J1 W hW hY h0 =>
    numbers_1_in x l _ J0 J1 W ((hW.cell (by show w.heap.size + 1 + 1 < _; omega)).trans hx0) (by rw [hrd]; exact hY) h0
  have HRD := Aside0.mk hrd
  clear hrd
  refine rf_one (F := Fence.wide) (P := Try.prog) rfl (by decide) (gf := 55) rfl trivial (Go.Proofs.enters_of Try.func55 (by kernel_rfl) rfl) HSEQ (Below.refl _ _) rfl
    (fun W => Boxed W (w.heap.size + 1) 23 (.int .u64 r) ∧ Below w.heap.size w W)
    (fun W l o o' hl ho hc hi => ⟨(World.putObj_heap_other (by omega)).trans hi.1, hi.2.grown (grownBy_putObj' _ l o') hi.2.size (fun k e => by cases e; omega)⟩) ?round ?stop
  case round =>
    rintro l W hl hbW ⟨q, hq⟩
    clear HSEQ
    gi_wp2
    refine ⟨KeepsFrom.refl _ _, fun o' => ?_⟩
    have h1 : Boxed (W.putObj l o') w.heap.size 3 (.int .i64 1) := (World.putObj_heap_other (by omega)).trans ((hbW.block _ (by omega)).trans hk0)
    have h2 : Boxed (W.putObj l o') (w.heap.size + 1) 23 (.int .u64 0) := (World.putObj_heap_other (by omega)).trans ((hbW.block _ (by omega)).trans hr0)
    have hb2 : Below w.heap.size w (W.putObj l o') := (hbw.trans (hbW.mono hbw.size)).grown (grownBy_putObj' _ l o') (by have := hbW.size; omega) (fun k e => by cases e; omega)
    generalize W.putObj l o' = W2 at *
    have c1 := h1.cell
    have f1 := h1.frozen
    have c2 := h2.cell
    have f2 := h2.frozen
    have H1 := Aside0.mk h1
    have H2 := Aside0.mk h2
    have HB := Aside0.mk hb2
    clear h1 h2 hb2 hq hk0 hr0 hx0
    gi_wp2
    exact ⟨((KeepsOthers.setCell _ _ _).trans (KeepsOthers.setCell _ _ _)).from _, (H2.out.other (by omega) _).set _, below_set (below_set HB.out (Nat.le_refl _)) (by omega)⟩
  case stop =>
    rintro D W hD ⟨hr, hb⟩ hK
    have hc : (W.putObj D (.deferred none)).cell? ⟨w.heap.size + 1, 0, none⟩ = some (.int .u64 r) := Boxed.cell (t := 23) ((World.putObj_heap_other (by omega)).trans hr)
    gi_wp2_with fail
    refine ⟨by simp, .inl ⟨_, _, rfl, run_takeDeferred hK, ?_⟩⟩
    exact ⟨.int .u64 r, by simp [results, Try.results21, go_sem, hc], by rw [HRD.out], hb.grown (grownBy_putObj' W D (.deferred none)) (by have := hb.size; omega) (fun k e => by cases e; omega)⟩
theorem number_1 (w : World) : Calls Try.prog 21 #[.int .u64 0, .int .i64 1] w fun e w' => e = .returned (.int .u64 167951807) ∧ Below w.heap.size w w' := by
  have h := callsIn_wide.1 (number_in 0 w)
  rw [show nx 0 / 8589934592 = 167951807 from by decide +kernel] at h
  exact h
set_option maxRecDepth 100000 in
theorem number_0 (w : World) : Calls Try.prog 21 #[.int .u64 0, .int .i64 0] w fun e w' => e = .returned (.int .u64 0) ∧ Below w.heap.size w w' := by
  go_enter Try.func21, Try.ntmps21
  go_wp2
  have hc := (Boxed.new (w.alloc (.cells #[.int .i64 0] 3)) 23 (.int .u64 0)).cell
  rw [World.size_alloc] at hc
  exact bodyPost_ret (v := .int .u64 0) (by simp [results, Try.results21, go_sem, hc]) rfl ⟨rfl, below_alloc (below_alloc (Below.refl _ _) _) _⟩
end Go.Proofs.Ytobbocolmlljdaa.P
