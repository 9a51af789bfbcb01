/- Texts of this claim, merged by pack.py: A1 -/
import Derived.Deep.RegionWith
import Derived.Test.YtobbocolmlljdaaSA06
import Derived.Test.YtobbocolmlljdaaSA01
namespace Go.Proofs.Ytobbocolmlljdaa.P
open Go.RowKit Go.Proofs.YtobbocolmlljdaaW.PrintWords Go.Proofs.YtobbocolmlljdaaW.PrintLast Go.Proofs.YtobbocolmlljdaaW.PrintMore Go.Proofs.YtobbocolmlljdaaW.HB
set_option linter.unusedVariables false
set_option linter.unusedSimpArgs false
theorem C_host (T : TypeId) (w : World) : Kd.C (Kd.int .i64) (w.alloc (.cells #[.int .i64 0] T)) (some ⟨w.heap.size, 0, none⟩) 1 [0] := by
  refine ⟨rfl, by omega, fun _ => ⟨_, rfl, fun j p hj => ?_⟩⟩
  have hj0 : j = 0 := by have := (List.getElem?_eq_some_iff.1 hj).1; simp at this; omega
  subst hj0
  cases hj
  refine ⟨[.int .i64 0], rfl, rfl, fun i u hu => ?_⟩
  have hi : i = 0 := by have := (List.getElem?_eq_some_iff.1 hu).1; simp at this; omega
  subst hi
  cases hu
  exact cell_fresh _ _ _ _ _ rfl
def a1 : S27 := ⟨1, 0⟩
def a2 : S27 := ⟨2, 0⟩
theorem heal_rows : pairsL (nodesL 1 1 0) ++ (nodesL 1 1 0).map restR = [mendR (a1, a2), restR a1, restR a2] := rfl
theorem pools_2 (w : World) : Kd.C k29 (w.alloc (.cells #[.int .i64 0, .int .i64 0, .int .i64 0, .int .i64 0, .int .i64 0, .int .i64 0, .int .i64 0, .int .i64 0] 29)) (some ⟨w.heap.size, 0, none⟩) 2 [⟨0, 0, 0, 0⟩, ⟨0, 0, 0, 0⟩] := by
  refine ⟨rfl, by omega, fun _ => ⟨_, rfl, fun j p hj => ?_⟩⟩
  have hj3 : j < 2 := (List.getElem?_eq_some_iff.1 hj).1
  refine ⟨[.int .i64 p.f0, .int .i64 p.f1, .int .i64 p.f2, .int .i64 p.f3], rfl, k29_mk _ p, fun i u hu => ?_⟩
  have hi4 : i < 4 := (List.getElem?_eq_some_iff.1 hu).1
  have hj' : j = 0 ∨ j = 1 := by omega
  have hi' : i = 0 ∨ i = 1 ∨ i = 2 ∨ i = 3 := by omega
  rcases hj' with rfl | rfl <;> cases hj <;> rcases hi' with rfl | rfl | rfl | rfl <;> cases hu <;> exact cell_fresh _ _ _ _ _ rfl
theorem basic_2 (A Ap : Option Addr) (w : World) (hr : Kd.C (Kd.int .i64) w A 1 [0]) (hp : Kd.C k29 w Ap 2 [⟨0, 0, 0, 0⟩, ⟨0, 0, 0, 0⟩]) :
    Calls Try.prog 10 #[.agg #[.int .i64 1, .slice A 1 1, .int .i64 0, .int .i64 32], .slice Ap 2 2] w fun e w' => ∃ A5 c5, e = .returned (.slice A5 22 c5) ∧ Below w.heap.size w w' := by
  refine (basic_0 A 1 Ap 2 [⟨0, 0, 0, 0⟩, ⟨0, 0, 0, 0⟩] w hr (by omega) hp (by decide) (by decide)).mono ?_
  rintro e w5 ⟨v, rfl, hR, hb⟩
  obtain ⟨A5, c5, rfl⟩ := Kd.R_slice hR
  exact ⟨A5, c5, rfl, hb⟩
structure AW (W : World) (bc : Nat) (hst : Value) (ad : Addr) : Prop where
  c0 : W.cell? ⟨bc, 0, none⟩ = some (.int .i64 1)
  c1 : W.cell? ⟨bc, 1, none⟩ = some hst
  c2 : W.cell? ⟨bc, 2, none⟩ = some (.int .i64 0)
  c3 : W.cell? ⟨bc, 3, none⟩ = some (.int .i64 32)
  l0 : W.cell? ad = some (.int .i64 6)
  l2 : W.cell? (ad.add 66) = some (.int .i64 8)
theorem AW.below {W W' : World} {bc : Nat} {hst : Value} {ad : Addr} (h : AW W bc hst ad) (hb : Below W.heap.size W W') : AW W' bc hst ad :=
  ⟨(hb.cell (World.block_lt_of_cell? W _ h.c0)).trans h.c0, (hb.cell (World.block_lt_of_cell? W _ h.c1)).trans h.c1, (hb.cell (World.block_lt_of_cell? W _ h.c2)).trans h.c2, (hb.cell (World.block_lt_of_cell? W _ h.c3)).trans h.c3, (hb.cell (World.block_lt_of_cell? W _ h.l0)).trans h.l0, (hb.cell (World.block_lt_of_cell? W _ h.l2)).trans h.l2⟩
def awake.f : Option Bool := some true
set_option maxRecDepth 100000 in
set_option maxHeartbeats 4000000 in
theorem awake.calls (w : World) : Calls Try.prog 9 #[] w fun e w' => e = .returned (.bool true) ∧ Below w.heap.size w w' := by
  have hu := Try.underlying47
  have B0 := Aside0.mk (Below.refl w.heap.size w)
  have HH := Aside0.mk (C_host 3 w)
  go_enter Try.func9, Try.ntmps9
  go_wp2_with (first
    | (go_at_call 13; refine (heal_0 _ 1 _ (Kd.C_alloc HH.out _) (by omega)).mono ?_; rintro e w2 ⟨v, rfl, hR, hb⟩; have R2 := Aside0.mk hR; have B2 := Aside0.mk (below_step (below_alloc (below_alloc B0.out _) _) hb); have HB2 := Aside0.mk hb; clear hR hb))
  have hrows := R2.out
  rw [heal_rows] at hrows
  obtain ⟨g, cap, rfl, -, -, -, -⟩ := Kd.R_form hrows (by simp)
  have CR := (Kd.R_reads' hrows).2.2
  obtain ⟨ad0, e0, -, -, hc0⟩ := raw_at CR 0 (by simp) (by simp)
  obtain ⟨ad2, e2, -, -, hc2⟩ := raw_at CR 2 (by simp) (by simp)
  cases e0
  cases e2
  have W2 : AW w2 (w.heap.size + 1) (.slice (some ⟨w.heap.size, 0, none⟩) 1 1) ⟨g, 0, none⟩ :=
    ⟨(HB2.out.cell (by simp)).trans (by have := cell_fresh (w.alloc (.cells #[.int .i64 0] 3)) #[.int .i64 1, .slice (some ⟨w.heap.size, 0, none⟩) 1 1, .int .i64 0, .int .i64 32] 47 0 _ rfl; rwa [World.size_alloc] at this),
     (HB2.out.cell (by simp)).trans (by have := cell_fresh (w.alloc (.cells #[.int .i64 0] 3)) #[.int .i64 1, .slice (some ⟨w.heap.size, 0, none⟩) 1 1, .int .i64 0, .int .i64 32] 47 1 _ rfl; rwa [World.size_alloc] at this),
     (HB2.out.cell (by simp)).trans (by have := cell_fresh (w.alloc (.cells #[.int .i64 0] 3)) #[.int .i64 1, .slice (some ⟨w.heap.size, 0, none⟩) 1 1, .int .i64 0, .int .i64 32] 47 2 _ rfl; rwa [World.size_alloc] at this),
     (HB2.out.cell (by simp)).trans (by have := cell_fresh (w.alloc (.cells #[.int .i64 0] 3)) #[.int .i64 1, .slice (some ⟨w.heap.size, 0, none⟩) 1 1, .int .i64 0, .int .i64 32] 47 3 _ rfl; rwa [World.size_alloc] at this),
     by have := hc0 0 (.int .i64 6) rfl; simpa [Addr.add] using this, by have := hc2 0 (.int .i64 8) rfl; simpa [Addr.add] using this⟩
  replace W2 := Aside0.mk W2
  clear hrows CR hc0 hc2 R2
  have W2 := Aside0.mk (W2.out.below (Below.refl _ _).drew)
  have B2 := Aside0.mk (below_drew B2.out)
  have D2 := Aside0.mk (below_drew HB2.out)
  have hmk : ∀ W : World, (Instr.makeSlice 49 (.int .i64 2) (.int .i64 2)).run Try.prog W = .ok (.slice (some ⟨W.heap.size, 0, none⟩) 2 2) (W.alloc (.cells #[.int .i64 0, .int .i64 0, .int .i64 0, .int .i64 0, .int .i64 0, .int .i64 0, .int .i64 0, .int .i64 0] 29)) := fun _ => by kernel_rfl
  refine wp_region_C [9] (fun b W => W.cell? ⟨w.heap.size + 1, 0, none⟩ = some (.int .i64 1) ∧ W.cell? ⟨w.heap.size + 1, 1, none⟩ = some (.slice (some ⟨w.heap.size, 0, none⟩) 1 1) ∧ W.cell? ⟨w.heap.size + 1, 2, none⟩ = some (.int .i64 0) ∧ W.cell? ⟨w.heap.size + 1, 3, none⟩ = some (.int .i64 32)) (by rfl) ?_ ?_
  · intro b hb
    exact ⟨W2.out.c0, W2.out.c1, W2.out.c2, W2.out.c3⟩
  intro hU
  refine wpAnyC_one (i := 0) (by kernel_rfl) rfl (fun K hK => ?_)
  rw [if_pos (by rfl)]
  go_simp
  refine (number_1 _).mono ?_
  rintro e w3 ⟨rfl, hb⟩; have W3 := Aside0.mk (W2.out.below hb); have B3 := Aside0.mk (below_step B2.out hb); have D3 := Aside0.mk (below_step D2.out hb); clear hb
  go_simp
  refine hK _ _ ?_ (fun hU => ?_)
  · intro c hc hL; exact ⟨W3.out.c0, W3.out.c1, W3.out.c2, W3.out.c3⟩
  clear hK K
  try simp only [Act.put, List.setIfInBounds_toArray, List.set_cons_zero, List.set_cons_succ]
  refine wpAnyC_one (i := 1) (by kernel_rfl) rfl (fun K hK => ?_)
  go_simp
  refine hK _ _ ?_ (fun hU => ?_)
  · intro c hc hL; exact ⟨W3.out.c0, W3.out.c1, W3.out.c2, W3.out.c3⟩
  clear hK K
  try simp only [Act.put, List.setIfInBounds_toArray, List.set_cons_zero, List.set_cons_succ]
  refine wpAnyC_one (i := 2) (by kernel_rfl) rfl (fun K hK => ?_)
  go_simp
  refine hK _ _ ?_ (fun hU => ?_)
  · intro c hc hL; exact ⟨W3.out.c0, W3.out.c1, W3.out.c2, W3.out.c3⟩
  clear hK K
  try simp only [Act.put, List.setIfInBounds_toArray, List.set_cons_zero, List.set_cons_succ]
  refine wpAnyC_one (i := 3) (by kernel_rfl) rfl (fun K hK => ?_)
  rw [if_pos (by rfl)]
  go_simp
  refine (number_0 _).mono ?_
  rintro e w4 ⟨rfl, hb⟩; have W4 := Aside0.mk (W3.out.below hb); have B4 := Aside0.mk (below_step B3.out hb); have D4 := Aside0.mk (below_step D3.out hb); have HBS := Aside0.mk (basic_2 _ _ _ (Kd.C_alloc (Kd.C_below (Kd.C_alloc HH.out (.cells #[.int .i64 1, .slice (some ⟨w.heap.size, 0, none⟩) 1 1, .int .i64 0, .int .i64 32] 47)) D4.out) _) (pools_2 w4)); clear hb
  go_simp
  refine hK _ _ ?_ (fun hU => ?_)
  · intro c hc hL; exact ⟨W4.out.c0, W4.out.c1, W4.out.c2, W4.out.c3⟩
  clear hK K
  try simp only [Act.put, List.setIfInBounds_toArray, List.set_cons_zero, List.set_cons_succ]
  refine wpAnyC_one (i := 4) (by kernel_rfl) rfl (fun K hK => ?_)
  go_simp
  refine hK _ _ ?_ (fun hU => ?_)
  · intro c hc hL; exact ⟨W4.out.c0, W4.out.c1, W4.out.c2, W4.out.c3⟩
  clear hK K
  try simp only [Act.put, List.setIfInBounds_toArray, List.set_cons_zero, List.set_cons_succ]
  refine wpAnyC_one (i := 5) (by kernel_rfl) rfl (fun K hK => ?_)
  go_simp
  refine hK _ _ ?_ (fun hU => ?_)
  · intro c hc hL; exact ⟨W4.out.c0, W4.out.c1, W4.out.c2, W4.out.c3⟩
  clear hK K
  try simp only [Act.put, List.setIfInBounds_toArray, List.set_cons_zero, List.set_cons_succ]
  refine wpAnyC_one (i := 6) (by kernel_rfl) rfl (fun K hK => ?_)
  go_simp
  refine hK _ _ ?_ (fun hU => ?_)
  · intro c hc hL; exact ⟨W4.out.c0, W4.out.c1, W4.out.c2, W4.out.c3⟩
  clear hK K
  try simp only [Act.put, List.setIfInBounds_toArray, List.set_cons_zero, List.set_cons_succ]
  refine wpAnyC_take (i := 7) (b := 9) (D := [9]) (v := .agg #[.int .i64 1, .slice (some ⟨w.heap.size, 0, none⟩) 1 1, .int .i64 0, .int .i64 32]) rfl (by kernel_rfl) (by kernel_rfl) (by kernel_rfl) (by kernel_rfl) (by simp) (by simp) (by simp) (by kernel_rfl) (fun _ _ _ h => h) (Or.inl ⟨by rfl, fun W hW => by obtain ⟨h1, h2, h3, h4⟩ := hW; go_simp⟩) hU (fun hU => ?_)
  try simp only [Act.put, List.setIfInBounds_toArray, List.set_cons_zero, List.set_cons_succ]
  refine wpAnyC_one (i := 8) (by kernel_rfl) rfl (fun K hK => ?_)
  go_simp
  refine hK _ _ ?_ (fun hU => ?_)
  · intro c hc hL; have W4' := W4.out.below (below_alloc (Below.refl _ _) (.cells #[.int .i64 0, .int .i64 0, .int .i64 0, .int .i64 0, .int .i64 0, .int .i64 0, .int .i64 0, .int .i64 0] 29)); exact ⟨W4'.c0, W4'.c1, W4'.c2, W4'.c3⟩
  clear hK K
  try simp only [Act.put, List.setIfInBounds_toArray, List.set_cons_zero, List.set_cons_succ]
  refine wpAnyC_one (i := 9) (by kernel_rfl) rfl (fun K hK => ?_)
  rw [if_pos (by rfl)]
  go_simp
  refine HBS.out.mono ?_
  rintro e w5 ⟨A5, c5, rfl, hb⟩; have W5 := Aside0.mk ((W4.out.below (below_alloc (Below.refl _ _) _)).below hb); have B5 := Aside0.mk (below_step (below_alloc B4.out _) hb); clear hb
  go_simp
  refine hK _ _ ?_ (fun hU => ?_)
  · intro c hc hL; have : c = 9 := by simpa using hc
    subst this; exact absurd hL (by simp)
  clear hK K
  try simp only [Act.put, List.setIfInBounds_toArray, List.set_cons_zero, List.set_cons_succ]
  refine wpAnyC_one (i := 10) (by kernel_rfl) rfl (fun K hK => ?_)
  go_simp
  refine hK _ _ ?_ (fun hU => ?_)
  · intro c hc hL; have : c = 9 := by simpa using hc
    subst this; exact absurd hL (by simp)
  clear hK K
  try simp only [Act.put, List.setIfInBounds_toArray, List.set_cons_zero, List.set_cons_succ]
  refine wpAnyC_one (i := 11) (by kernel_rfl) rfl (fun K hK => ?_)
  go_simp
  refine hK _ _ ?_ (fun hU => ?_)
  · intro c hc hL; have : c = 9 := by simpa using hc
    subst this; exact absurd hL (by simp)
  clear hK K
  try simp only [Act.put, List.setIfInBounds_toArray, List.set_cons_zero, List.set_cons_succ]
  refine wpAnyC_one (i := 12) (by kernel_rfl) rfl (fun K hK => ?_)
  go_simp
  refine hK _ _ ?_ (fun hU => ?_)
  · intro c hc hL; have : c = 9 := by simpa using hc
    subst this; exact absurd hL (by simp)
  clear hK K
  try simp only [Act.put, List.setIfInBounds_toArray, List.set_cons_zero, List.set_cons_succ]
  refine wpAnyC_one (i := 13) (by kernel_rfl) rfl (fun K hK => ?_)
  go_simp
  refine hK _ _ ?_ (fun hU => ?_)
  · intro c hc hL; have : c = 9 := by simpa using hc
    subst this; exact absurd hL (by simp)
  clear hK K
  try simp only [Act.put, List.setIfInBounds_toArray, List.set_cons_zero, List.set_cons_succ]
  refine wpAnyC_one (i := 14) (by kernel_rfl) rfl (fun K hK => ?_)
  go_simp
  refine hK _ _ ?_ (fun hU => ?_)
  · intro c hc hL; have : c = 9 := by simpa using hc
    subst this; exact absurd hL (by simp)
  clear hK K
  try simp only [Act.put, List.setIfInBounds_toArray, List.set_cons_zero, List.set_cons_succ]
  refine wpAnyC_one (i := 15) (by kernel_rfl) rfl (fun K hK => ?_)
  go_simp
  refine hK _ _ ?_ (fun hU => ?_)
  · intro c hc hL; have : c = 9 := by simpa using hc
    subst this; exact absurd hL (by simp)
  clear hK K
  try simp only [Act.put, List.setIfInBounds_toArray, List.set_cons_zero, List.set_cons_succ]
  refine wpAnyC_one (i := 16) (by kernel_rfl) rfl (fun K hK => ?_)
  go_simp
  refine hK _ _ ?_ (fun hU => ?_)
  · intro c hc hL; have : c = 9 := by simpa using hc
    subst this; exact absurd hL (by simp)
  clear hK K
  try simp only [Act.put, List.setIfInBounds_toArray, List.set_cons_zero, List.set_cons_succ]
  refine wpAnyC_one (i := 17) (by kernel_rfl) rfl (fun K hK => ?_)
  go_simp
  refine hK _ _ ?_ (fun hU => ?_)
  · intro c hc hL; have : c = 9 := by simpa using hc
    subst this; exact absurd hL (by simp)
  clear hK K
  try simp only [Act.put, List.setIfInBounds_toArray, List.set_cons_zero, List.set_cons_succ]
  refine wpAnyC_one (i := 18) (by kernel_rfl) rfl (fun K hK => ?_)
  go_simp
  refine hK _ _ ?_ (fun hU => ?_)
  · intro c hc hL; have : c = 9 := by simpa using hc
    subst this; exact absurd hL (by simp)
  clear hK K
  try simp only [Act.put, List.setIfInBounds_toArray, List.set_cons_zero, List.set_cons_succ]
  refine wpAnyC_one (i := 19) (by kernel_rfl) rfl (fun K hK => ?_)
  go_simp
  refine hK _ _ ?_ (fun hU => ?_)
  · intro c hc hL; have : c = 9 := by simpa using hc
    subst this; exact absurd hL (by simp)
  clear hK K
  try simp only [Act.put, List.setIfInBounds_toArray, List.set_cons_zero, List.set_cons_succ]
  refine wpAnyC_one (i := 20) (by kernel_rfl) rfl (fun K hK => ?_)
  go_simp
  refine hK _ _ ?_ (fun hU => ?_)
  · intro c hc hL; have : c = 9 := by simpa using hc
    subst this; exact absurd hL (by simp)
  clear hK K
  try simp only [Act.put, List.setIfInBounds_toArray, List.set_cons_zero, List.set_cons_succ]
  refine wpAnyC_one (i := 21) (by kernel_rfl) rfl (fun K hK => ?_)
  go_simp
  refine hK _ _ ?_ (fun hU => ?_)
  · intro c hc hL; have : c = 9 := by simpa using hc
    subst this; exact absurd hL (by simp)
  clear hK K
  try simp only [Act.put, List.setIfInBounds_toArray, List.set_cons_zero, List.set_cons_succ]
  have k0 := W5.out.l0
  refine wpAnyC_one (i := 22) (by kernel_rfl) rfl (fun K hK => ?_)
  go_simp
  refine hK _ _ ?_ (fun hU => ?_)
  · intro c hc hL; have : c = 9 := by simpa using hc
    subst this; exact absurd hL (by simp)
  clear hK K
  try simp only [Act.put, List.setIfInBounds_toArray, List.set_cons_zero, List.set_cons_succ]
  refine wpAnyC_one (i := 23) (by kernel_rfl) rfl (fun K hK => ?_)
  go_simp
  refine hK _ _ ?_ (fun hU => ?_)
  · intro c hc hL; have : c = 9 := by simpa using hc
    subst this; exact absurd hL (by simp)
  clear hK K
  try simp only [Act.put, List.setIfInBounds_toArray, List.set_cons_zero, List.set_cons_succ]
  refine wpAnyC_one (i := 24) (by kernel_rfl) rfl (fun K hK => ?_)
  go_simp
  refine hK _ _ ?_ (fun hU => ?_)
  · intro c hc hL; have : c = 9 := by simpa using hc
    subst this; exact absurd hL (by simp)
  clear hK K
  try simp only [Act.put, List.setIfInBounds_toArray, List.set_cons_zero, List.set_cons_succ]
  refine wpAnyC_one (i := 25) (by kernel_rfl) rfl (fun K hK => ?_)
  go_simp
  refine hK _ _ ?_ (fun hU => ?_)
  · intro c hc hL; have : c = 9 := by simpa using hc
    subst this; exact absurd hL (by simp)
  clear hK K
  try simp only [Act.put, List.setIfInBounds_toArray, List.set_cons_zero, List.set_cons_succ]
  refine wpAnyC_one (i := 26) (by kernel_rfl) rfl (fun K hK => ?_)
  go_simp
  refine hK _ _ ?_ (fun hU => ?_)
  · intro c hc hL; have : c = 9 := by simpa using hc
    subst this; exact absurd hL (by simp)
  clear hK K
  try simp only [Act.put, List.setIfInBounds_toArray, List.set_cons_zero, List.set_cons_succ]
  refine wpAnyC_one (i := 27) (by kernel_rfl) rfl (fun K hK => ?_)
  go_simp
  refine hK _ _ ?_ (fun hU => ?_)
  · intro c hc hL; have : c = 9 := by simpa using hc
    subst this; exact absurd hL (by simp)
  clear hK K
  try simp only [Act.put, List.setIfInBounds_toArray, List.set_cons_zero, List.set_cons_succ]
  refine wpAnyC_one (i := 28) (by kernel_rfl) rfl (fun K hK => ?_)
  go_simp
  refine hK _ _ ?_ (fun hU => ?_)
  · intro c hc hL; have : c = 9 := by simpa using hc
    subst this; exact absurd hL (by simp)
  clear hK K
  try simp only [Act.put, List.setIfInBounds_toArray, List.set_cons_zero, List.set_cons_succ]
  have k1 : w5.cell? ⟨g, 66, none⟩ = some (.int .i64 8) := by have := W5.out.l2; simpa [Addr.add] using this
  refine wpAnyC_one (i := 29) (by kernel_rfl) rfl (fun K hK => ?_)
  go_simp
  refine hK _ _ ?_ (fun hU => ?_)
  · intro c hc hL; have : c = 9 := by simpa using hc
    subst this; exact absurd hL (by simp)
  clear hK K
  try simp only [Act.put, List.setIfInBounds_toArray, List.set_cons_zero, List.set_cons_succ]
  refine wpAnyC_one (i := 30) (by kernel_rfl) rfl (fun K hK => ?_)
  go_simp
  refine hK _ _ ?_ (fun hU => ?_)
  · intro c hc hL; have : c = 9 := by simpa using hc
    subst this; exact absurd hL (by simp)
  clear hK K
  try simp only [Act.put, List.setIfInBounds_toArray, List.set_cons_zero, List.set_cons_succ]
  refine wpAnyC_one (i := 31) (by kernel_rfl) rfl (fun K hK => ?_)
  go_simp
  refine hK _ _ ?_ (fun hU => ?_)
  · intro c hc hL; have : c = 9 := by simpa using hc
    subst this; exact absurd hL (by simp)
  clear hK K
  try simp only [Act.put, List.setIfInBounds_toArray, List.set_cons_zero, List.set_cons_succ]
  refine wpAnyC_one (i := 32) (by kernel_rfl) rfl (fun K hK => ?_)
  go_simp
  refine hK _ _ ?_ (fun hU => ?_)
  · intro c hc hL; have : c = 9 := by simpa using hc
    subst this; exact absurd hL (by simp)
  clear hK K
  try simp only [Act.put, List.setIfInBounds_toArray, List.set_cons_zero, List.set_cons_succ]
  refine wpAnyC_done (by kernel_rfl) ?_ _
  go_wp2
  go_ret
  exact ⟨rfl, B5.out⟩
end Go.Proofs.Ytobbocolmlljdaa.P
