/- Texts of this claim, merged by pack.py: S11 -/
import Derived.Test.YtobbocolmlljdaaSA06
import Derived.Test.YtobbocolmlljdaaSA07
namespace Go.Proofs.Ytobbocolmlljdaa.P
open Go.RowKit Go.Proofs.YtobbocolmlljdaaW.PrintWords Go.Proofs.YtobbocolmlljdaaW.PrintLast Go.Proofs.YtobbocolmlljdaaW.PrintMore Go.Proofs.YtobbocolmlljdaaW.HB
set_option linter.unusedVariables false
set_option linter.unusedSimpArgs false
def Reads (W : World) (A : Option Addr) (c : Nat) (rows : List (List Value)) : Prop := Kd.C kRaw W A rows.length rows ∧ rows.length ≤ c
theorem Reads.below {W W' : World} {A : Option Addr} {c : Nat} {rows : List (List Value)} (h : Reads W A c rows) (hb : Below W.heap.size W W') : Reads W' A c rows := ⟨Kd.C_below h.1 hb, h.2⟩
theorem Reads.from {w W : World} {A : Option Addr} {c : Nat} {rows : List (List Value)} (h : Reads w A c rows) (hb : Below w.heap.size w W) : Reads W A c rows := ⟨Kd.C_below h.1 hb, h.2⟩
theorem R_reads {w W : World} {v : Value} {base : Nat} {rows : List (List Value)} (h : Kd.R kRaw 41 W base (fun _ => True) v rows) : ∃ A c, v = .slice A rows.length c ∧ Reads W A c rows := by
  obtain ⟨A, c, rfl⟩ := Kd.R_slice h
  have h' := Kd.R_reads' h
  exact ⟨A, c, rfl, h'.2.2, h'.2.1⟩
theorem IsStep.one {w : World} {row : List Value} (h : IsStep w row) : ∀ u ∈ row, u.oneCell' = true := by
  obtain ⟨x, hx⟩ := h
  obtain ⟨A28, c28, e, _, _⟩ := k41_open hx
  intro u hu
  rw [e] at hu
  simp only [List.mem_cons, List.not_mem_nil, or_false] at hu
  repeat' (rcases hu with rfl | hu <;> first | rfl | skip)
  all_goals (subst hu; rfl)
theorem gs_yes {α : Type} {same : α → α → Bool} {z : α} {a : List α} {i : Nat} {s x : α} (h : i < a.length) (e : a[i] = x) (hs : same s x = true) : gs same z a i s = i + 1 := by
  unfold gs
  rw [if_pos ⟨h, by rw [List.getD_eq_getElem?_getD, List.getElem?_eq_getElem h, Option.getD_some, e]; exact hs⟩]
theorem gs_no {α : Type} {same : α → α → Bool} {z : α} {a : List α} {i : Nat} {s x : α} (h : i < a.length) (e : a[i] = x) (hs : same s x = false) : gs same z a i s = i := by
  unfold gs
  rw [if_neg (fun hh => by have h2 := hh.2; rw [List.getD_eq_getElem?_getD, List.getElem?_eq_getElem h, Option.getD_some, e, hs] at h2; cases h2)]
theorem gs_out {α : Type} {same : α → α → Bool} {z : α} {a : List α} {i : Nat} {s : α} (h : ¬ i < a.length) : gs same z a i s = i := by
  unfold gs
  rw [if_neg (fun hh => h hh.1)]
theorem load_cells {W : World} {A : Option Addr} {c : Nat} {rows : List (List Value)} (h : Reads W A c rows) (k : Nat) (hk : k < rows.length) : ∃ ad, A = some ad ∧ ∀ j u, rows[k][j]? = some u → W.cell? ((ad.add (k * 33)).add j) = some u := by
  obtain ⟨ad, e, -, -, hc⟩ := raw_at h.1 k hk hk
  exact ⟨ad, e, hc⟩
theorem below_cells {w0 : World} {b : Nat} (hb : w0.heap.size ≤ b) : ∀ (vs : List Value) (o : Nat) (W : World), Below w0.heap.size w0 W → Below w0.heap.size w0 (W.setCells b o vs)
  | [], _, _, h => h
  | v :: r, o, W, h => below_cells hb r (o + 1) _ (h.setCell (by show w0.heap.size ≤ b; exact hb) v)
theorem wpList_box_row {ops : Array Oper} {rest : List Oper} {o : Oper} {a : Act} {W : World} {Q : Exit → Act → World → Prop} (hgd : o.guard = none) (x y : Operand) (ho : o.op = .store 41 x y) (row : List Value) (h33 : row.length = 33) (hone : ∀ u ∈ row, u.oneCell' = true) (z : Array Value) (hz : z.size = 33)
    (hx : a.eval x = .pointer (some ⟨W.heap.size, 0, none⟩)) (hy : a.eval y = .agg row.toArray)
    (h : ∀ W1, Below W.heap.size W W1 → (∀ j u, row[j]? = some u → W1.cell? ((⟨W.heap.size, 0, none⟩ : Addr).add j) = some u) → wpList Try.prog ops Q rest (a.put o.dst undef) W1) : wpList Try.prog ops Q (o :: rest) a (W.alloc (.cells z 41)) := by
  have ht : (W.alloc (.cells z 41)).there W.heap.size 0 row.length := fun j hj => by
    have hjz : j < z.size := by omega
    rw [Nat.zero_add]
    exact ⟨by rw [cell_fresh W z 41 j z[j] (Array.getElem?_eq_getElem hjz)]; rfl, frozen_fresh W z 41 j⟩
  refine wpList_store_mid hgd 41 x y ho W.heap.size 0 row.toArray hx hy (by simpa using ht) (by simpa [h33] using size41) (all_oneCell_toArray hone) ?_
  refine h _ (below_cells (Nat.le_refl _) _ _ _ (below_alloc (Below.refl _ _) _)) (fun j u hu => ?_)
  rw [Addr.add_mid]
  exact World.rangeAt_setCells_same _ _ _ _ ht j u hu
set_option maxRecDepth 100000 in
set_option maxHeartbeats 8000000 in
theorem mixes.calls (A0 : Option Addr) (c0 : Nat) (ra : List (List Value)) (A1 : Option Addr) (c1 : Nat) (rb : List (List Value)) (seed : Int) (w : World) (h0 : Reads w A0 c0 ra) (h1 : Reads w A1 c1 rb) (s0 : ∀ r ∈ ra, IsStep w r) (s1 : ∀ r ∈ rb, IsStep w r) (hl : ra.length + rb.length ≤ 4000000) :
    Calls Try.prog 3 #[.slice A0 ra.length c0, .slice A1 rb.length c1, .int .u64 seed] w fun e w' => e = .returned (.bool true) ∧ Below w.heap.size w w' := by
  obtain ⟨m, hm⟩ : ∃ m, m = mixS ra rb seed := ⟨_, rfl⟩
  have hmlen : m.length = ra.length + rb.length := by rw [hm]; exact mixS_len _ ra rb seed (Nat.le_refl _)
  have hms : ∀ r ∈ m, IsStep w r := fun r hr => by
    rw [hm] at hr
    rcases mixS_mem r _ ra rb seed (Nat.le_refl _) hr with h | h
    · exact s0 r h
    · exact s1 r h
  have HMX : ∀ W : World, Below w.heap.size w W → Calls Try.prog 5 #[.slice A0 ra.length c0, .slice A1 rb.length c1, .int .u64 seed] W fun e W' => ∃ A c, e = .returned (.slice A m.length c) ∧ Reads W' A c m ∧ Below W.heap.size W W' := fun W hb => by
    refine (mix.calls A0 c0 ra A1 c1 rb seed W (h0.from hb).1 h0.2 (h1.from hb).1 h1.2 hl).mono ?_
    rintro e W' ⟨v, rfl, hR, hB⟩
    rw [← hm] at hR
    obtain ⟨A, c, rfl, hr⟩ := R_reads (w := W) hR
    exact ⟨A, c, rfl, hr, hB⟩
  replace HMX := Aside0.mk HMX
  have HRM : ∀ W : World, Below w.heap.size w W → Calls Try.prog 7 #[.slice A0 ra.length c0, .slice A1 rb.length c1, .int .u64 seed] W fun e W' => ∃ A c, e = .returned (.slice A m.length c) ∧ Reads W' A c m ∧ Below W.heap.size W W' := fun W hb => by
    refine (refMix.calls A0 c0 ra A1 c1 rb seed W (h0.from hb).1 h0.2 (h1.from hb).1 h1.2 hl).mono ?_
    rintro e W' ⟨v, rfl, hR, hB⟩
    rw [← hm] at hR
    obtain ⟨A, c, rfl, hr⟩ := R_reads (w := W) hR
    exact ⟨A, c, rfl, hr, hB⟩
  replace HRM := Aside0.mk HRM
  have HSUB := Aside0.mk (show ra.Sublist m ∧ rb.Sublist m from by rw [hm]; exact mixS_sub _ ra rb seed (Nat.le_refl _))
  have HMS := Aside0.mk hms
  have HL := Aside0.mk hl
  have HML := Aside0.mk hmlen
  have H0 := Aside0.mk h0
  have H1 := Aside0.mk h1
  have S0 := Aside0.mk s0
  have S1 := Aside0.mk s1
  have L0 : (ra.length : Int) ≤ 4000000 := by omega
  have L1 : (rb.length : Int) ≤ 4000000 := by omega
  have LM : (m.length : Int) ≤ 4000000 := by omega
  have q1 : ((m.length : Int) != (ra.length : Int) + (rb.length : Int)) = false := by simp; omega
  have q2 : ((m.length : Int) == (ra.length : Int) + (rb.length : Int)) = true := by simp; omega
  have q3 : decide ((m.length : Int) = (ra.length : Int) + (rb.length : Int)) = true := by simp; omega
  have G0 := Aside0.mk (gr_all (sameR w) [] ra (fun x hx => sameR_refl (s0 x hx)) m 0 0 (Nat.le_refl _) (Nat.zero_le _) (by simpa using HSUB.out.1))
  have G1 := Aside0.mk (gr_all (sameR w) [] rb (fun x hx => sameR_refl (s1 x hx)) m 0 0 (Nat.le_refl _) (Nat.zero_le _) (by simpa using HSUB.out.2))
  have B0 := Aside0.mk (Below.refl w.heap.size w)
  clear h0 h1 s0 s1 hl hmlen hms hm
  go_enter Try.func3, Try.ntmps3
  go_wp2_with (first
    | (go_at_call 5; refine (HMX.out _ B0.out).mono ?_; rintro e w1 ⟨Am, cm, rfl, hr, hb⟩; have M1 := Aside0.mk hr; have B1 := Aside0.mk (below_step B0.out hb); clear hr hb)
    | (go_at_call 7; refine (HRM.out _ B1.out).mono ?_; rintro e w2 ⟨Ar, cr, rfl, hr, hb⟩; have R2 := Aside0.mk hr; have M2 := Aside0.mk (M1.out.below hb); have B2 := Aside0.mk (below_step B1.out hb); clear hr hb)
    | (go_at_call 6; refine (steps.calls w _ _ _ _ _ m M2.out.1 M2.out.2 R2.out.1 R2.out.2 HMS.out B2.out (by have := HML.out; have := HL.out; omega)).mono ?_; rintro e w3 ⟨rfl, hb⟩; have M3 := Aside0.mk (M2.out.below hb); have B3 := Aside0.mk (below_step B2.out hb); clear hb))
  go_loopg [8, 37] m.length (fun kq v8 v37 w' => ∃ k : Nat, v37 = .int .i64 k ∧ v8 = .int .i64 (gr (sameR w) [] ra (m.take k) : Nat) ∧ Aside0 (k + kq = m.length) ∧ Aside0 (Below w.heap.size w w') ∧ Aside0 (Reads w' Am cm m))
  case atStart => exact ⟨0, rfl, rfl, ⟨by omega⟩, B3, M3⟩
  case round =>
    clear M3 B3
    obtain ⟨k, rfl, rfl, HK, HB1, HM1⟩ := hrel
    by_cases b1 : k < m.length
    · have p1 : (0 : Int) ≤ (k : Int) := by omega
      have p2 : (k : Int) < (m.length : Int) := by omega
      have hst := gr_snoc (sameR w) [] ra m k b1
      have hgl := gr_le (sameR w) [] ra (m.take k)
      generalize gr (sameR w) [] ra (m.take k) = gi at hst hgl
      obtain ⟨ad, e, hcell⟩ := load_cells HM1.out k b1
      cases e
      have HS := Aside0.mk (IsStep.at HMS.out k b1)
      obtain ⟨row, hrow⟩ : ∃ row, m[k] = row := ⟨_, rfl⟩
      rw [hrow] at hcell HS hst
      have HC := Aside0.mk hcell
      have HST := Aside0.mk hst
      have H33 := Aside0.mk HS.out.len
      clear hcell hst hrow
      have HO := Aside0.mk (IsStep.one HS.out)
      have hgl : (gi : Int) ≤ (ra.length : Int) := by omega
      have p3 : (0 : Int) ≤ (gi : Int) := by omega
      go_upto_region 8 with (first
        | ((with_reducible refine gate_dst (N := 40) rfl ?_); refine wpList_load_row rfl 41 (.tmp 39) rfl _ rfl row _ HC.out Try.underlying41 rfl (by rw [H33.out]; exact size41) ?_)
        | (refine wpList_box_row rfl (.tmp 10) (.tmp 40) rfl row H33.out HO.out _ rfl rfl rfl ?_; intro W1 hb hc; have B5 := Aside0.mk (below_step HB1.out hb); have M5 := Aside0.mk (HM1.out.below hb); have C5 := Aside0.mk hc; clear hb hc))
      by_cases b2 : gi < ra.length
      · have p4 : (gi : Int) < (ra.length : Int) := by omega
        obtain ⟨bd, e, hdell⟩ := load_cells (H0.out.from B5.out) gi b2
        cases e
        have HS2 := Aside0.mk (IsStep.at S0.out gi b2)
        obtain ⟨arow, harow⟩ : ∃ arow, ra[gi] = arow := ⟨_, rfl⟩
        rw [harow] at hdell HS2
        have D5 := Aside0.mk hdell
        have HAR := Aside0.mk harow
        have H332 := Aside0.mk HS2.out.len
        clear hdell harow
        obtain ⟨bb, hbb⟩ : ∃ bb, sameR w row arow = bb := ⟨_, rfl⟩
        have HSC := fun W hb => same.calls w W row arow HS.out HS2.out hb
        rw [hbb] at HSC
        replace HSC := Aside0.mk HSC
        have HBB := Aside0.mk hbb
        clear hbb
        refine wp_region_C [11] (fun b W => (∀ j u, row[j]? = some u → W.cell? ((⟨wr.heap.size, 0, none⟩ : Addr).add j) = some u) ∧ (∀ j u, arow[j]? = some u → W.cell? ((bd.add (gi * 33)).add j) = some u)) (by rfl) ?_ ?_
        · intro b hb
          exact ⟨Kd_cells C5.out (Below.refl _ _).drew, Kd_cells D5.out (Below.refl _ _).drew⟩
        intro hU
        refine wpAnyC_take (i := 0) (b := 11) (D := [3, 4, 5, 6, 7, 8, 9, 10, 11]) (v := .int .i64 gi) rfl (by kernel_rfl) (by kernel_rfl) (by kernel_rfl) (by kernel_rfl) (by simp) (by simp) (by simp) (by kernel_rfl) (fun _ _ _ h => h) (Or.inl ⟨by rfl, fun W hW => by go_simp⟩) hU (fun hU => ?_)
        try simp only [Act.put, List.setIfInBounds_toArray, List.set_cons_zero, List.set_cons_succ]
        refine wpAnyC_take (i := 1) (b := 11) (D := [2, 3, 4, 5, 6, 7, 8, 9, 10, 11]) (v := .slice (some bd) ra.length c0) rfl (by kernel_rfl) (by kernel_rfl) (by kernel_rfl) (by kernel_rfl) (by simp) (by simp) (by simp) (by kernel_rfl) (fun _ _ _ h => h) (Or.inl ⟨by rfl, fun W hW => by go_simp⟩) hU (fun hU => ?_)
        try simp only [Act.put, List.setIfInBounds_toArray, List.set_cons_zero, List.set_cons_succ]
        refine wpAnyC_one (i := 2) (by kernel_rfl) rfl (fun K hK => ?_)
        go_simp
        refine hK _ _ ?_ (fun hU => ?_)
        · intro c hc hL; exact ⟨Kd_cells C5.out (Below.refl _ _).drew, Kd_cells D5.out (Below.refl _ _).drew⟩
        clear hK K
        try simp only [Act.put, List.setIfInBounds_toArray, List.set_cons_zero, List.set_cons_succ]
        refine wpAnyC_one (i := 3) (by kernel_rfl) rfl (fun K hK => ?_)
        go_simp
        refine hK _ _ ?_ (fun hU => ?_)
        · intro c hc hL; exact ⟨Kd_cells C5.out (Below.refl _ _).drew, Kd_cells D5.out (Below.refl _ _).drew⟩
        clear hK K
        try simp only [Act.put, List.setIfInBounds_toArray, List.set_cons_zero, List.set_cons_succ]
        refine wpAnyC_one (i := 4) (by kernel_rfl) rfl (fun K hK => ?_)
        go_simp
        refine hK _ _ ?_ (fun hU => ?_)
        · intro c hc hL; exact ⟨Kd_cells C5.out (Below.refl _ _).drew, Kd_cells D5.out (Below.refl _ _).drew⟩
        clear hK K
        try simp only [Act.put, List.setIfInBounds_toArray, List.set_cons_zero, List.set_cons_succ]
        refine wpAnyC_take (i := 5) (b := 11) (D := [10, 11]) (v := .agg row.toArray) rfl (by kernel_rfl) (by kernel_rfl) (by kernel_rfl) (by kernel_rfl) (by simp) (by simp) (by simp) (by kernel_rfl) (fun _ _ _ h => h) (Or.inl ⟨by rfl, fun W hW => exec_load_row _ _ rfl ⟨wr.heap.size, 0, none⟩ rfl row _ hW.1 Try.underlying41 rfl (by rw [H33.out]; exact size41)⟩) hU (fun hU => ?_)
        try simp only [Act.put, List.setIfInBounds_toArray, List.set_cons_zero, List.set_cons_succ]
        refine wpAnyC_take (i := 6) (b := 11) (D := [8, 9, 10, 11]) (v := .slice (some bd) ra.length c0) rfl (by kernel_rfl) (by kernel_rfl) (by kernel_rfl) (by kernel_rfl) (by simp) (by simp) (by simp) (by kernel_rfl) (fun _ _ _ h => h) (Or.inl ⟨by rfl, fun W hW => by go_simp⟩) hU (fun hU => ?_)
        try simp only [Act.put, List.setIfInBounds_toArray, List.set_cons_zero, List.set_cons_succ]
        refine wpAnyC_take (i := 7) (b := 11) (D := [8, 9, 10, 11]) (v := .int .i64 gi) rfl (by kernel_rfl) (by kernel_rfl) (by kernel_rfl) (by kernel_rfl) (by simp) (by simp) (by simp) (by kernel_rfl) (fun _ _ _ h => h) (Or.inl ⟨by rfl, fun W hW => by go_simp⟩) hU (fun hU => ?_)
        try simp only [Act.put, List.setIfInBounds_toArray, List.set_cons_zero, List.set_cons_succ]
        refine wpAnyC_take (i := 8) (b := 11) (D := [9, 10, 11]) (v := .pointer (some (bd.add (gi * 33)))) rfl (by kernel_rfl) (by kernel_rfl) (by kernel_rfl) (by kernel_rfl) (by simp) (by simp) (by simp) (by kernel_rfl) (fun _ _ _ h => h) (Or.inl ⟨by rfl, fun W hW => by go_simp⟩) hU (fun hU => ?_)
        try simp only [Act.put, List.setIfInBounds_toArray, List.set_cons_zero, List.set_cons_succ]
        refine wpAnyC_take (i := 9) (b := 11) (D := [10, 11]) (v := .agg arow.toArray) rfl (by kernel_rfl) (by kernel_rfl) (by kernel_rfl) (by kernel_rfl) (by simp) (by simp) (by simp) (by kernel_rfl) (fun _ _ _ h => h) (Or.inl ⟨by rfl, fun W hW => exec_load_row _ _ rfl (bd.add (gi * 33)) rfl arow _ hW.2 Try.underlying41 rfl (by rw [H332.out]; exact size41)⟩) hU (fun hU => ?_)
        try simp only [Act.put, List.setIfInBounds_toArray, List.set_cons_zero, List.set_cons_succ]
        refine wpAnyC_one (i := 10) (by kernel_rfl) rfl (fun K hK => ?_)
        rw [if_pos (by rfl)]
        go_simp
        refine (HSC.out _ (below_drew B5.out)).mono ?_
        rintro e w2 ⟨rfl, hb⟩; have B6 := Aside0.mk hb; clear hb
        go_simp
        refine hK _ _ ?_ (fun hU => ?_)
        · intro c hc hL; exact ⟨Kd_cells C5.out ((Below.refl _ _).drew.trans (B6.out.mono (by simp))), Kd_cells D5.out ((Below.refl _ _).drew.trans (B6.out.mono (by simp)))⟩
        clear hK K
        try simp only [Act.put, List.setIfInBounds_toArray, List.set_cons_zero, List.set_cons_succ]
        refine wpAnyC_one (i := 11) (by kernel_rfl) rfl (fun K hK => ?_)
        go_simp
        refine hK _ _ ?_ (fun hU => ?_)
        · intro c hc hL
          have : c = 11 := by simpa using hc
          subst this; exact absurd hL (by simp)
        clear hK K
        try simp only [Act.put, List.setIfInBounds_toArray, List.set_cons_zero, List.set_cons_succ]
        refine wpAnyC_done (by kernel_rfl) ?_ _
        have B7 := Aside0.mk (below_step (below_drew B5.out) B6.out)
        have M7 := Aside0.mk (M5.out.below ((Below.refl _ _).drew.trans (B6.out.mono (by simp))))
        cases bb
        · go_wp2
          go_roundg (m.length - (k + 1))
          case rel => exact ⟨k + 1, by go_num, by rw [HST.out, gs_no b2 HAR.out HBB.out], ⟨by omega⟩, B7, M7⟩
          case measure => have := HK.out; omega
        · go_wp2
          go_roundg (m.length - (k + 1))
          case rel => exact ⟨k + 1, by go_num, by rw [HST.out, gs_yes b2 HAR.out HBB.out]; go_num, ⟨by omega⟩, B7, M7⟩
          case measure => have := HK.out; omega
      · have p4 : ¬ (gi : Int) < (ra.length : Int) := by omega
        refine wp_region_C [11] (fun b W => True) (by rfl) ?_ ?_
        · intro b hb
          exact trivial
        intro hU
        refine wpAnyC_take (i := 0) (b := 11) (D := [3, 4, 5, 6, 7, 8, 9, 10, 11]) (v := .int .i64 gi) rfl (by kernel_rfl) (by kernel_rfl) (by kernel_rfl) (by kernel_rfl) (by simp) (by simp) (by simp) (by kernel_rfl) (fun _ _ _ h => h) (Or.inl ⟨by rfl, fun W hW => by go_simp⟩) hU (fun hU => ?_)
        try simp only [Act.put, List.setIfInBounds_toArray, List.set_cons_zero, List.set_cons_succ]
        refine wpAnyC_take (i := 1) (b := 11) (D := [2, 3, 4, 5, 6, 7, 8, 9, 10, 11]) (v := .slice A0 ra.length c0) rfl (by kernel_rfl) (by kernel_rfl) (by kernel_rfl) (by kernel_rfl) (by simp) (by simp) (by simp) (by kernel_rfl) (fun _ _ _ h => h) (Or.inl ⟨by rfl, fun W hW => by go_simp⟩) hU (fun hU => ?_)
        try simp only [Act.put, List.setIfInBounds_toArray, List.set_cons_zero, List.set_cons_succ]
        refine wpAnyC_one (i := 2) (by kernel_rfl) rfl (fun K hK => ?_)
        go_simp
        refine hK _ _ ?_ (fun hU => ?_)
        · intro c hc hL; exact trivial
        clear hK K
        try simp only [Act.put, List.setIfInBounds_toArray, List.set_cons_zero, List.set_cons_succ]
        refine wpAnyC_one (i := 3) (by kernel_rfl) rfl (fun K hK => ?_)
        go_simp
        refine hK _ _ ?_ (fun hU => ?_)
        · intro c hc hL; exact trivial
        clear hK K
        try simp only [Act.put, List.setIfInBounds_toArray, List.set_cons_zero, List.set_cons_succ]
        refine wpAnyC_one (i := 4) (by kernel_rfl) rfl (fun K hK => ?_)
        go_simp
        refine hK _ _ ?_ (fun hU => ?_)
        · intro c hc hL; exact trivial
        clear hK K
        try simp only [Act.put, List.setIfInBounds_toArray, List.set_cons_zero, List.set_cons_succ]
        refine wpAnyC_take (i := 5) (b := 11) (D := [10, 11]) (v := undef) rfl (by kernel_rfl) (by kernel_rfl) (by kernel_rfl) (by kernel_rfl) (by simp) (by simp) (by simp) (by kernel_rfl) (fun _ _ _ h => h) (Or.inr ⟨by rfl, rfl⟩) hU (fun hU => ?_)
        try simp only [Act.put, List.setIfInBounds_toArray, List.set_cons_zero, List.set_cons_succ]
        refine wpAnyC_take (i := 6) (b := 11) (D := [8, 9, 10, 11]) (v := undef) rfl (by kernel_rfl) (by kernel_rfl) (by kernel_rfl) (by kernel_rfl) (by simp) (by simp) (by simp) (by kernel_rfl) (fun _ _ _ h => h) (Or.inr ⟨by rfl, rfl⟩) hU (fun hU => ?_)
        try simp only [Act.put, List.setIfInBounds_toArray, List.set_cons_zero, List.set_cons_succ]
        refine wpAnyC_take (i := 7) (b := 11) (D := [8, 9, 10, 11]) (v := undef) rfl (by kernel_rfl) (by kernel_rfl) (by kernel_rfl) (by kernel_rfl) (by simp) (by simp) (by simp) (by kernel_rfl) (fun _ _ _ h => h) (Or.inr ⟨by rfl, rfl⟩) hU (fun hU => ?_)
        try simp only [Act.put, List.setIfInBounds_toArray, List.set_cons_zero, List.set_cons_succ]
        refine wpAnyC_one (i := 8) (by kernel_rfl) rfl (fun K hK => ?_)
        go_simp
        refine hK _ _ ?_ (fun hU => ?_)
        · intro c hc hL; exact trivial
        clear hK K
        try simp only [Act.put, List.setIfInBounds_toArray, List.set_cons_zero, List.set_cons_succ]
        refine wpAnyC_one (i := 9) (by kernel_rfl) rfl (fun K hK => ?_)
        go_simp
        refine hK _ _ ?_ (fun hU => ?_)
        · intro c hc hL; exact trivial
        clear hK K
        try simp only [Act.put, List.setIfInBounds_toArray, List.set_cons_zero, List.set_cons_succ]
        refine wpAnyC_one (i := 10) (by kernel_rfl) rfl (fun K hK => ?_)
        go_simp
        refine hK _ _ ?_ (fun hU => ?_)
        · intro c hc hL; exact trivial
        clear hK K
        try simp only [Act.put, List.setIfInBounds_toArray, List.set_cons_zero, List.set_cons_succ]
        refine wpAnyC_one (i := 11) (by kernel_rfl) rfl (fun K hK => ?_)
        go_simp
        refine hK _ _ ?_ (fun hU => ?_)
        · intro c hc hL
          have : c = 11 := by simpa using hc
          subst this; exact absurd hL (by simp)
        clear hK K
        try simp only [Act.put, List.setIfInBounds_toArray, List.set_cons_zero, List.set_cons_succ]
        refine wpAnyC_done (by kernel_rfl) ?_ _
        go_wp2
        go_roundg (m.length - (k + 1))
        case rel => exact ⟨k + 1, by go_num, by rw [HST.out, gs_out b2], ⟨by omega⟩, ⟨below_drew B5.out⟩, ⟨M5.out.below (Below.refl _ _).drew⟩⟩
        case measure => have := HK.out; omega
    · obtain rfl : k = m.length := by have := HK.out; omega
      rw [List.take_length, show gr (sameR w) [] ra m = ra.length from G0.out]
      obtain ⟨w4, rfl⟩ : ∃ wo : World, wo = wr := ⟨_, rfl⟩
      have B4 := Aside0.mk HB1.out
      have M4 := Aside0.mk HM1.out
      clear HB1 HM1 HK b1
      go_wp2
      go_loopg [11, 58] m.length (fun kq v8 v37 w' => ∃ k : Nat, v37 = .int .i64 k ∧ v8 = .int .i64 (gr (sameR w) [] rb (m.take k) : Nat) ∧ Aside0 (k + kq = m.length) ∧ Aside0 (Below w.heap.size w w') ∧ Aside0 (Reads w' Am cm m))
      case atStart => exact ⟨0, rfl, rfl, ⟨by omega⟩, B4, M4⟩
      case round =>
        clear M4 B4
        obtain ⟨k, rfl, rfl, HK, HB1, HM1⟩ := hrel
        by_cases b1 : k < m.length
        · have p1 : (0 : Int) ≤ (k : Int) := by omega
          have p2 : (k : Int) < (m.length : Int) := by omega
          have hst := gr_snoc (sameR w) [] rb m k b1
          have hgl := gr_le (sameR w) [] rb (m.take k)
          generalize gr (sameR w) [] rb (m.take k) = gi at hst hgl
          obtain ⟨ad, e, hcell⟩ := load_cells HM1.out k b1
          cases e
          have HS := Aside0.mk (IsStep.at HMS.out k b1)
          obtain ⟨row, hrow⟩ : ∃ row, m[k] = row := ⟨_, rfl⟩
          rw [hrow] at hcell HS hst
          have HC := Aside0.mk hcell
          have HST := Aside0.mk hst
          have H33 := Aside0.mk HS.out.len
          clear hcell hst hrow
          have HO := Aside0.mk (IsStep.one HS.out)
          have hgl : (gi : Int) ≤ (rb.length : Int) := by omega
          have p3 : (0 : Int) ≤ (gi : Int) := by omega
          go_upto_region 15 with (first
            | ((with_reducible refine gate_dst (N := 61) rfl ?_); refine wpList_load_row rfl 41 (.tmp 60) rfl _ rfl row _ HC.out Try.underlying41 rfl (by rw [H33.out]; exact size41) ?_)
            | (refine wpList_box_row rfl (.tmp 13) (.tmp 61) rfl row H33.out HO.out _ rfl rfl rfl ?_; intro W1 hb hc; have B5 := Aside0.mk (below_step HB1.out hb); have M5 := Aside0.mk (HM1.out.below hb); have C5 := Aside0.mk hc; clear hb hc))
          by_cases b2 : gi < rb.length
          · have p4 : (gi : Int) < (rb.length : Int) := by omega
            obtain ⟨bd, e, hdell⟩ := load_cells (H1.out.from B5.out) gi b2
            cases e
            have HS2 := Aside0.mk (IsStep.at S1.out gi b2)
            obtain ⟨arow, harow⟩ : ∃ arow, rb[gi] = arow := ⟨_, rfl⟩
            rw [harow] at hdell HS2
            have D5 := Aside0.mk hdell
            have HAR := Aside0.mk harow
            have H332 := Aside0.mk HS2.out.len
            clear hdell harow
            obtain ⟨bb, hbb⟩ : ∃ bb, sameR w row arow = bb := ⟨_, rfl⟩
            have HSC := fun W hb => same.calls w W row arow HS.out HS2.out hb
            rw [hbb] at HSC
            replace HSC := Aside0.mk HSC
            have HBB := Aside0.mk hbb
            clear hbb
            refine wp_region_C [11] (fun b W => (∀ j u, row[j]? = some u → W.cell? ((⟨wr.heap.size, 0, none⟩ : Addr).add j) = some u) ∧ (∀ j u, arow[j]? = some u → W.cell? ((bd.add (gi * 33)).add j) = some u)) (by rfl) ?_ ?_
            · intro b hb
              exact ⟨Kd_cells C5.out (Below.refl _ _).drew, Kd_cells D5.out (Below.refl _ _).drew⟩
            intro hU
            refine wpAnyC_take (i := 0) (b := 11) (D := [3, 4, 5, 6, 7, 8, 9, 10, 11]) (v := .int .i64 gi) rfl (by kernel_rfl) (by kernel_rfl) (by kernel_rfl) (by kernel_rfl) (by simp) (by simp) (by simp) (by kernel_rfl) (fun _ _ _ h => h) (Or.inl ⟨by rfl, fun W hW => by go_simp⟩) hU (fun hU => ?_)
            try simp only [Act.put, List.setIfInBounds_toArray, List.set_cons_zero, List.set_cons_succ]
            refine wpAnyC_take (i := 1) (b := 11) (D := [2, 3, 4, 5, 6, 7, 8, 9, 10, 11]) (v := .slice (some bd) rb.length c1) rfl (by kernel_rfl) (by kernel_rfl) (by kernel_rfl) (by kernel_rfl) (by simp) (by simp) (by simp) (by kernel_rfl) (fun _ _ _ h => h) (Or.inl ⟨by rfl, fun W hW => by go_simp⟩) hU (fun hU => ?_)
            try simp only [Act.put, List.setIfInBounds_toArray, List.set_cons_zero, List.set_cons_succ]
            refine wpAnyC_one (i := 2) (by kernel_rfl) rfl (fun K hK => ?_)
            go_simp
            refine hK _ _ ?_ (fun hU => ?_)
            · intro c hc hL; exact ⟨Kd_cells C5.out (Below.refl _ _).drew, Kd_cells D5.out (Below.refl _ _).drew⟩
            clear hK K
            try simp only [Act.put, List.setIfInBounds_toArray, List.set_cons_zero, List.set_cons_succ]
            refine wpAnyC_one (i := 3) (by kernel_rfl) rfl (fun K hK => ?_)
            go_simp
            refine hK _ _ ?_ (fun hU => ?_)
            · intro c hc hL; exact ⟨Kd_cells C5.out (Below.refl _ _).drew, Kd_cells D5.out (Below.refl _ _).drew⟩
            clear hK K
            try simp only [Act.put, List.setIfInBounds_toArray, List.set_cons_zero, List.set_cons_succ]
            refine wpAnyC_one (i := 4) (by kernel_rfl) rfl (fun K hK => ?_)
            go_simp
            refine hK _ _ ?_ (fun hU => ?_)
            · intro c hc hL; exact ⟨Kd_cells C5.out (Below.refl _ _).drew, Kd_cells D5.out (Below.refl _ _).drew⟩
            clear hK K
            try simp only [Act.put, List.setIfInBounds_toArray, List.set_cons_zero, List.set_cons_succ]
            refine wpAnyC_take (i := 5) (b := 11) (D := [10, 11]) (v := .agg row.toArray) rfl (by kernel_rfl) (by kernel_rfl) (by kernel_rfl) (by kernel_rfl) (by simp) (by simp) (by simp) (by kernel_rfl) (fun _ _ _ h => h) (Or.inl ⟨by rfl, fun W hW => exec_load_row _ _ rfl ⟨wr.heap.size, 0, none⟩ rfl row _ hW.1 Try.underlying41 rfl (by rw [H33.out]; exact size41)⟩) hU (fun hU => ?_)
            try simp only [Act.put, List.setIfInBounds_toArray, List.set_cons_zero, List.set_cons_succ]
            refine wpAnyC_take (i := 6) (b := 11) (D := [8, 9, 10, 11]) (v := .slice (some bd) rb.length c1) rfl (by kernel_rfl) (by kernel_rfl) (by kernel_rfl) (by kernel_rfl) (by simp) (by simp) (by simp) (by kernel_rfl) (fun _ _ _ h => h) (Or.inl ⟨by rfl, fun W hW => by go_simp⟩) hU (fun hU => ?_)
            try simp only [Act.put, List.setIfInBounds_toArray, List.set_cons_zero, List.set_cons_succ]
            refine wpAnyC_take (i := 7) (b := 11) (D := [8, 9, 10, 11]) (v := .int .i64 gi) rfl (by kernel_rfl) (by kernel_rfl) (by kernel_rfl) (by kernel_rfl) (by simp) (by simp) (by simp) (by kernel_rfl) (fun _ _ _ h => h) (Or.inl ⟨by rfl, fun W hW => by go_simp⟩) hU (fun hU => ?_)
            try simp only [Act.put, List.setIfInBounds_toArray, List.set_cons_zero, List.set_cons_succ]
            refine wpAnyC_take (i := 8) (b := 11) (D := [9, 10, 11]) (v := .pointer (some (bd.add (gi * 33)))) rfl (by kernel_rfl) (by kernel_rfl) (by kernel_rfl) (by kernel_rfl) (by simp) (by simp) (by simp) (by kernel_rfl) (fun _ _ _ h => h) (Or.inl ⟨by rfl, fun W hW => by go_simp⟩) hU (fun hU => ?_)
            try simp only [Act.put, List.setIfInBounds_toArray, List.set_cons_zero, List.set_cons_succ]
            refine wpAnyC_take (i := 9) (b := 11) (D := [10, 11]) (v := .agg arow.toArray) rfl (by kernel_rfl) (by kernel_rfl) (by kernel_rfl) (by kernel_rfl) (by simp) (by simp) (by simp) (by kernel_rfl) (fun _ _ _ h => h) (Or.inl ⟨by rfl, fun W hW => exec_load_row _ _ rfl (bd.add (gi * 33)) rfl arow _ hW.2 Try.underlying41 rfl (by rw [H332.out]; exact size41)⟩) hU (fun hU => ?_)
            try simp only [Act.put, List.setIfInBounds_toArray, List.set_cons_zero, List.set_cons_succ]
            refine wpAnyC_one (i := 10) (by kernel_rfl) rfl (fun K hK => ?_)
            rw [if_pos (by rfl)]
            go_simp
            refine (HSC.out _ (below_drew B5.out)).mono ?_
            rintro e w2 ⟨rfl, hb⟩; have B6 := Aside0.mk hb; clear hb
            go_simp
            refine hK _ _ ?_ (fun hU => ?_)
            · intro c hc hL; exact ⟨Kd_cells C5.out ((Below.refl _ _).drew.trans (B6.out.mono (by simp))), Kd_cells D5.out ((Below.refl _ _).drew.trans (B6.out.mono (by simp)))⟩
            clear hK K
            try simp only [Act.put, List.setIfInBounds_toArray, List.set_cons_zero, List.set_cons_succ]
            refine wpAnyC_one (i := 11) (by kernel_rfl) rfl (fun K hK => ?_)
            go_simp
            refine hK _ _ ?_ (fun hU => ?_)
            · intro c hc hL
              have : c = 11 := by simpa using hc
              subst this; exact absurd hL (by simp)
            clear hK K
            try simp only [Act.put, List.setIfInBounds_toArray, List.set_cons_zero, List.set_cons_succ]
            refine wpAnyC_done (by kernel_rfl) ?_ _
            have B7 := Aside0.mk (below_step (below_drew B5.out) B6.out)
            have M7 := Aside0.mk (M5.out.below ((Below.refl _ _).drew.trans (B6.out.mono (by simp))))
            cases bb
            · go_wp2
              go_roundg (m.length - (k + 1))
              case rel => exact ⟨k + 1, by go_num, by rw [HST.out, gs_no b2 HAR.out HBB.out], ⟨by omega⟩, B7, M7⟩
              case measure => have := HK.out; omega
            · go_wp2
              go_roundg (m.length - (k + 1))
              case rel => exact ⟨k + 1, by go_num, by rw [HST.out, gs_yes b2 HAR.out HBB.out]; go_num, ⟨by omega⟩, B7, M7⟩
              case measure => have := HK.out; omega
          · have p4 : ¬ (gi : Int) < (rb.length : Int) := by omega
            refine wp_region_C [11] (fun b W => True) (by rfl) ?_ ?_
            · intro b hb
              exact trivial
            intro hU
            refine wpAnyC_take (i := 0) (b := 11) (D := [3, 4, 5, 6, 7, 8, 9, 10, 11]) (v := .int .i64 gi) rfl (by kernel_rfl) (by kernel_rfl) (by kernel_rfl) (by kernel_rfl) (by simp) (by simp) (by simp) (by kernel_rfl) (fun _ _ _ h => h) (Or.inl ⟨by rfl, fun W hW => by go_simp⟩) hU (fun hU => ?_)
            try simp only [Act.put, List.setIfInBounds_toArray, List.set_cons_zero, List.set_cons_succ]
            refine wpAnyC_take (i := 1) (b := 11) (D := [2, 3, 4, 5, 6, 7, 8, 9, 10, 11]) (v := .slice A1 rb.length c1) rfl (by kernel_rfl) (by kernel_rfl) (by kernel_rfl) (by kernel_rfl) (by simp) (by simp) (by simp) (by kernel_rfl) (fun _ _ _ h => h) (Or.inl ⟨by rfl, fun W hW => by go_simp⟩) hU (fun hU => ?_)
            try simp only [Act.put, List.setIfInBounds_toArray, List.set_cons_zero, List.set_cons_succ]
            refine wpAnyC_one (i := 2) (by kernel_rfl) rfl (fun K hK => ?_)
            go_simp
            refine hK _ _ ?_ (fun hU => ?_)
            · intro c hc hL; exact trivial
            clear hK K
            try simp only [Act.put, List.setIfInBounds_toArray, List.set_cons_zero, List.set_cons_succ]
            refine wpAnyC_one (i := 3) (by kernel_rfl) rfl (fun K hK => ?_)
            go_simp
            refine hK _ _ ?_ (fun hU => ?_)
            · intro c hc hL; exact trivial
            clear hK K
            try simp only [Act.put, List.setIfInBounds_toArray, List.set_cons_zero, List.set_cons_succ]
            refine wpAnyC_one (i := 4) (by kernel_rfl) rfl (fun K hK => ?_)
            go_simp
            refine hK _ _ ?_ (fun hU => ?_)
            · intro c hc hL; exact trivial
            clear hK K
            try simp only [Act.put, List.setIfInBounds_toArray, List.set_cons_zero, List.set_cons_succ]
            refine wpAnyC_take (i := 5) (b := 11) (D := [10, 11]) (v := undef) rfl (by kernel_rfl) (by kernel_rfl) (by kernel_rfl) (by kernel_rfl) (by simp) (by simp) (by simp) (by kernel_rfl) (fun _ _ _ h => h) (Or.inr ⟨by rfl, rfl⟩) hU (fun hU => ?_)
            try simp only [Act.put, List.setIfInBounds_toArray, List.set_cons_zero, List.set_cons_succ]
            refine wpAnyC_take (i := 6) (b := 11) (D := [8, 9, 10, 11]) (v := undef) rfl (by kernel_rfl) (by kernel_rfl) (by kernel_rfl) (by kernel_rfl) (by simp) (by simp) (by simp) (by kernel_rfl) (fun _ _ _ h => h) (Or.inr ⟨by rfl, rfl⟩) hU (fun hU => ?_)
            try simp only [Act.put, List.setIfInBounds_toArray, List.set_cons_zero, List.set_cons_succ]
            refine wpAnyC_take (i := 7) (b := 11) (D := [8, 9, 10, 11]) (v := undef) rfl (by kernel_rfl) (by kernel_rfl) (by kernel_rfl) (by kernel_rfl) (by simp) (by simp) (by simp) (by kernel_rfl) (fun _ _ _ h => h) (Or.inr ⟨by rfl, rfl⟩) hU (fun hU => ?_)
            try simp only [Act.put, List.setIfInBounds_toArray, List.set_cons_zero, List.set_cons_succ]
            refine wpAnyC_one (i := 8) (by kernel_rfl) rfl (fun K hK => ?_)
            go_simp
            refine hK _ _ ?_ (fun hU => ?_)
            · intro c hc hL; exact trivial
            clear hK K
            try simp only [Act.put, List.setIfInBounds_toArray, List.set_cons_zero, List.set_cons_succ]
            refine wpAnyC_one (i := 9) (by kernel_rfl) rfl (fun K hK => ?_)
            go_simp
            refine hK _ _ ?_ (fun hU => ?_)
            · intro c hc hL; exact trivial
            clear hK K
            try simp only [Act.put, List.setIfInBounds_toArray, List.set_cons_zero, List.set_cons_succ]
            refine wpAnyC_one (i := 10) (by kernel_rfl) rfl (fun K hK => ?_)
            go_simp
            refine hK _ _ ?_ (fun hU => ?_)
            · intro c hc hL; exact trivial
            clear hK K
            try simp only [Act.put, List.setIfInBounds_toArray, List.set_cons_zero, List.set_cons_succ]
            refine wpAnyC_one (i := 11) (by kernel_rfl) rfl (fun K hK => ?_)
            go_simp
            refine hK _ _ ?_ (fun hU => ?_)
            · intro c hc hL
              have : c = 11 := by simpa using hc
              subst this; exact absurd hL (by simp)
            clear hK K
            try simp only [Act.put, List.setIfInBounds_toArray, List.set_cons_zero, List.set_cons_succ]
            refine wpAnyC_done (by kernel_rfl) ?_ _
            go_wp2
            go_roundg (m.length - (k + 1))
            case rel => exact ⟨k + 1, by go_num, by rw [HST.out, gs_out b2], ⟨by omega⟩, ⟨below_drew B5.out⟩, ⟨M5.out.below (Below.refl _ _).drew⟩⟩
            case measure => have := HK.out; omega
        · obtain rfl : k = m.length := by have := HK.out; omega
          rw [List.take_length, show gr (sameR w) [] rb m = rb.length from G1.out]
          go_wp2_with (first
            | (go_at_call 9; refine (awake.calls _).mono ?_; rintro e w9 ⟨rfl, hb⟩; have B9 := Aside0.mk (below_step HB1.out hb); clear hb))
          go_ret
          exact ⟨rfl, B9.out⟩
end Go.Proofs.Ytobbocolmlljdaa.P
