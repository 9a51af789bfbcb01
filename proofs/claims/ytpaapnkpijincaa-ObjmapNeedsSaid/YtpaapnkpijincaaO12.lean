import Derived.Test.YtpaapnkpijincaaO8
import Derived.Stop.RegionWithIn
namespace Go.Proofs.Ytpaapnkpijincaa.P
open Go.RowKit Go.Proofs.YtpaapnkpijincaaW.PrintWords Go.Proofs.YtpaapnkpijincaaW.PrintLast Go.Proofs.YtpaapnkpijincaaW.PrintMore Go.Proofs.YtpaapnkpijincaaW.HB
set_option linter.unusedVariables false
set_option linter.unusedSimpArgs false
attribute [local go_sem] Oper.semAt_some

theorem pieces_in (n : Nat) (u c o off N : Int) (w : World) :
    CallsIn Fence.wide n Try.prog 47 #[.agg #[.int .i64 u, .int .i64 c, .int .i64 o], .int .i64 off, .int .i64 N] w fun e w' =>
      e = .returned (.func (.func 61) #[] #[.pointer (some ⟨w.heap.size + 2, 0, none⟩), .pointer (some ⟨w.heap.size, 0, none⟩), .pointer (some ⟨w.heap.size + 1, 0, none⟩)]) ∧
      w' = ((w.alloc (.cells #[.int .i64 u, .int .i64 c, .int .i64 o] 50)).alloc (.cells #[.int .i64 off] 2)).alloc (.cells #[.int .i64 N] 2) := by
  refine callsIn_of_wp Try.func47 rfl trivial ?_ rfl
  simp only [Try.ntmps47, List.size_toArray, List.length_cons, List.length_nil, Nat.reduceAdd, Nat.reduceSub, Array.replicate_succ, Array.replicate_zero, List.push_toArray, List.append_toArray, List.nil_append, List.cons_append]
  gi_wp2
  go_ret
  exact ⟨rfl, rfl⟩
theorem bounded_in (n : Nat) (sz N : Int) (hN : mn (mx sz 0) 4096 = N) (w : World) : CallsIn Fence.wide n Try.prog 48 #[.int .i64 sz] w fun e w' => e = .returned (.int .i64 N) ∧ w' = w := by
  refine callsIn_of_wp Try.func48 rfl trivial ?_ rfl
  simp only [Try.ntmps48, List.size_toArray, List.length_cons, List.length_nil, Nat.reduceAdd, Nat.reduceSub, Array.replicate_succ, Array.replicate_zero, List.push_toArray, List.append_toArray, List.nil_append, List.cons_append]
  unfold mn mx at hN
  gi_wp2
  all_goals go_ret
  all_goals refine ⟨?_, rfl⟩
  all_goals simp
  all_goals (repeat' split at hN)
  all_goals omega
/-- All ways of a region come to one end. -/
theorem meetM {F : Fence} {n : Nat} {P : Program} {c : Code} {Q : Exit → Act → World → Prop} {a : Act} {w : World}
    (h : ∃ a' w', c.wpIn F n P (fun e a w => match e with | .normal => a = a' ∧ w = w' | _ => False) a w ∧ Q .normal a' w') : c.wpIn F n P Q a w := by
  obtain ⟨a', w', h1, h2⟩ := h
  refine wpIn_mono h1 ?_
  rintro e b v hb
  cases e with
  | normal => obtain ⟨rfl, rfl⟩ := hb; exact h2
  | _ => exact hb.elim
/-- What the iterator tells a loop. -/
theorem pieces_seq (u c o : Int) (N : Nat) (hN : N ≤ 4096) (pl : Nat → Int × Int) (hpl : ∀ i, i < N → stripe_find.f u c o (i : Int) = some (pl i)) (bn byy bo : Nat) (X Ts : Nat → Prop) (hTs : Ts 46) (hTs2 : Ts 89) (w : World)
    (hbn : bn < w.heap.size) (hby : byy < w.heap.size) (hbo : bo < w.heap.size) (hXn : ¬ X bn) (hXy : ¬ X byy) (hXo : ¬ X bo)
    (hBn : w.cell? ⟨bn, 0, none⟩ = some (.int .i64 N)) (hBo : w.cell? ⟨bo, 0, none⟩ = some (.int .i64 0))
    (hBy0 : w.cell? ⟨byy, 0, none⟩ = some (.int .i64 u)) (hBy1 : w.cell? ⟨byy, 1, none⟩ = some (.int .i64 c)) (hBy2 : w.cell? ⟨byy, 2, none⟩ = some (.int .i64 o)) :
    SeqC Fence.wide 8 Try.prog 61 #[.pointer (some ⟨bn, 0, none⟩), .pointer (some ⟨byy, 0, none⟩), .pointer (some ⟨bo, 0, none⟩)] (fun x : S46 => #[.agg #[.int .i64 x.f0, .int .i64 x.f1, .int .i64 x.f2, .int .i64 x.f3]]) (KeepX w.heap.size X Ts) (fun xs => xs = outP pl N) 4097 w := fun l J W hW hJ hY h0 =>
  (pieces_1_in u c o N hN pl hpl l bn byy bo w.heap.size X Ts hTs hTs2 hbn hby hbo hXn hXy hXo J W hW.size hJ hY ((hW.cell hbn).trans hBn) ((hW.cell hbo).trans hBo) ((hW.cell hby).trans hBy0) ((hW.cell hby).trans hBy1) ((hW.cell hby).trans hBy2) h0).mono
    (fun e W' h => ⟨h.1, _, rfl, h.2⟩)
def objsOf (l : List S46) : Int := l.foldl (fun n f => mx n (wrap64 (f.f0 + 1))) 0
theorem objsOf_snoc (l : List S46) (f : S46) : objsOf (l ++ [f]) = mx (objsOf l) (wrap64 (f.f0 + 1)) := by unfold objsOf; rw [List.foldl_append]; rfl
set_option maxRecDepth 100000 in
set_option maxHeartbeats 4000000 in
theorem objects_in (u c o sz : Int) (N : Nat) (hN : mn (mx sz 0) 4096 = (N : Int)) (pl : Nat → Int × Int) (hpl : ∀ i, i < N → stripe_find.f u c o (i : Int) = some (pl i)) (w : World) :
    CallsIn Fence.wide 9 Try.prog 41 #[.agg #[.int .i64 u, .int .i64 c, .int .i64 o], .int .i64 sz] w (fun e w' => e = .returned (.int .i64 (objsOf (outP pl N))) ∧ Below w.heap.size w w') := by
  refine callsIn_of_wp_marks Try.func41 rfl trivial ?_ rfl
  simp only [Try.ntmps41, List.size_toArray, List.length_cons, List.length_nil, Nat.reduceAdd, Nat.reduceSub, Array.replicate_succ, Array.replicate_zero, List.push_toArray, List.append_toArray, List.nil_append, List.cons_append]
  gi_wp2
  refine meetM ?_
  apply Exists.intro
  apply Exists.intro
  refine ⟨?_, ?_⟩
  · gi_region_with (first | (refine ⟨trivial, ?_⟩; gi_at_call 48; refine (bounded_in 8 sz _ hN _).mono ?_; rintro e w1 ⟨rfl, rfl⟩) | (refine ⟨trivial, ?_⟩; gi_at_call 47; refine (pieces_in 8 u c o 0 N _).mono ?_; rintro e w2 ⟨rfl, rfl⟩))
    all_goals exact ⟨rfl, rfl⟩
  gi_wp2
  have hW : ∃ wl : World, wl = (((((w.alloc (.cells #[.int .i64 u, .int .i64 c, .int .i64 o] 50)).alloc (.cells #[.int .i64 0] 3)).alloc (.cells #[.int .i64 u, .int .i64 c, .int .i64 o] 50)).alloc (.cells #[.int .i64 0] 2)).alloc (.cells #[.int .i64 N] 2)).drew := ⟨_, rfl⟩
  obtain ⟨wl, hwl⟩ := hW
  rw [← hwl]
  have hsz : wl.heap.size = w.heap.size + 5 := by rw [hwl]; simp
  have hbel : Below w.heap.size w wl := by
    rw [hwl]
    exact ((((((Below.refl _ w).alloc (Nat.le_refl _) _).alloc (by simp) _).alloc (by simp <;> omega) _).alloc (by simp <;> omega) _).alloc (by simp <;> omega) _).drew
  have hbx : Boxed wl (w.heap.size + 1) 3 (.int .i64 (objsOf [])) := by
    rw [hwl]
    have h1 := World.alloc_heap_new (w.alloc (.cells #[.int .i64 u, .int .i64 c, .int .i64 o] 50)) (.cells #[.int .i64 0] 3)
    rw [World.size_alloc] at h1
    exact ((((Below.refl _ ((w.alloc (.cells #[.int .i64 u, .int .i64 c, .int .i64 o] 50)).alloc (.cells #[.int .i64 0] 3))).alloc (Nat.le_refl _) _).alloc (by simp) _).alloc (by simp <;> omega) _).drew.block _ (by simp) |>.trans h1
  have hcn : wl.cell? ⟨w.heap.size + 1 + 1 + 2, 0, none⟩ = some (.int .i64 N) := by rw [hwl]; go_simp
  have hco : wl.cell? ⟨w.heap.size + 1 + 1 + 1, 0, none⟩ = some (.int .i64 0) := by rw [hwl]; go_simp
  have hc0 : wl.cell? ⟨w.heap.size + 1 + 1, 0, none⟩ = some (.int .i64 u) := by rw [hwl]; go_simp
  have hc1 : wl.cell? ⟨w.heap.size + 1 + 1, 1, none⟩ = some (.int .i64 c) := by rw [hwl]; go_simp
  have hc2 : wl.cell? ⟨w.heap.size + 1 + 1, 2, none⟩ = some (.int .i64 o) := by rw [hwl]; go_simp
  clear hwl
  have hN4 : N ≤ 4096 := by have : mn (mx sz 0) 4096 ≤ 4096 := by unfold mn mx; split <;> split <;> omega
                            omega
  have HSEQ := pieces_seq u c o N hN4 pl hpl (w.heap.size + 1 + 1 + 2) (w.heap.size + 1 + 1) (w.heap.size + 1 + 1 + 1) (fun k => k = w.heap.size + 1) (fun T => T = 46 ∨ T = 89) (.inl rfl) (.inr rfl) wl (by omega) (by omega) (by omega) (fun h => by have : w.heap.size + 1 + 1 + 2 = w.heap.size + 1 := h; omega) (fun h => by have : w.heap.size + 1 + 1 = w.heap.size + 1 := h; omega) (fun h => by have : w.heap.size + 1 + 1 + 1 = w.heap.size + 1 := h; omega) hcn hco hc0 hc1 hc2
  refine rf_A (F := Fence.wide) (P := Try.prog) (encs := fun x : S46 => #[.agg #[.int .i64 x.f0, .int .i64 x.f1, .int .i64 x.f2, .int .i64 x.f3]]) rfl (by decide) (gf := 61) rfl trivial (Go.Proofs.enters_of Try.func61 (by kernel_rfl) rfl) HSEQ (Below.refl _ _) (fun _ => rfl)
    (fun (pre : List S46) W => Boxed W (w.heap.size + 1) 3 (.int .i64 (objsOf pre)) ∧ Below w.heap.size w W)
    (fun s X Y hs hb => ⟨(hb.block _ (by omega)).trans hs.1, hs.2.trans (hb.mono (by omega))⟩) ⟨hbx, hbel⟩ ?round ?done
  case round =>
    rintro l pre x W hl ⟨r, hr⟩ ⟨hx, hb⟩ hlen
    have hlW : l < W.heap.size := (Array.getElem?_eq_some_iff.1 hr).1
    have hw := i64w (x.f0 + 1)
    generalize hv : wrap64 (x.f0 + 1) = v at hw
    have HV := Aside0.mk hv
    clear hv HSEQ hcn hco hc0 hc1 hc2
    obtain ⟨f0, f1, f2, f3⟩ := x
    dsimp only at hw HV
    gi_wp2
    refine ⟨(KeepsOthers.alloc W _).from _, KeepX.below ((Below.refl _ W).alloc (Nat.le_refl _) _), fun o' => ?_⟩
    have hba := (Below.refl _ W).alloc (Nat.le_refl _) (.cells #[.int .i64 f0, .int .i64 f1, .int .i64 f2, .int .i64 f3] 46)
    have hx2 : Boxed ((W.alloc (.cells #[.int .i64 f0, .int .i64 f1, .int .i64 f2, .int .i64 f3] 46)).putObj l o') (w.heap.size + 1) 3 (.int .i64 (objsOf pre)) :=
      (World.putObj_heap_other (by omega)).trans ((hba.block _ hx.lt).trans hx)
    have hf2 : ((W.alloc (.cells #[.int .i64 f0, .int .i64 f1, .int .i64 f2, .int .i64 f3] 46)).putObj l o').cell? ⟨W.heap.size, 0, none⟩ = some (.int .i64 f0) := by
      unfold World.cell?
      rw [show ((W.alloc (.cells #[.int .i64 f0, .int .i64 f1, .int .i64 f2, .int .i64 f3] 46)).putObj l o').heap[W.heap.size]? = _ from (World.putObj_heap_other (by omega)).trans (World.alloc_heap_new W _)]
      rfl
    have hb2 : Below w.heap.size w ((W.alloc (.cells #[.int .i64 f0, .int .i64 f1, .int .i64 f2, .int .i64 f3] 46)).putObj l o') :=
      (hb.trans (hba.mono hb.size)).grown (grownBy_putObj' _ l o') (by have := hb.size; simp; omega) (fun k e => by cases e; omega)
    generalize (W.alloc (.cells #[.int .i64 f0, .int .i64 f1, .int .i64 f2, .int .i64 f3] 46)).putObj l o' = W2 at hx2 hf2 hb2
    have hc2 := hx2.cell
    have hz2 := hx2.frozen
    have HX2 := Aside0.mk hx2
    have HB2 := Aside0.mk hb2
    have HO := Aside0.mk (objsOf_snoc pre ⟨f0, f1, f2, f3⟩)
    dsimp only at HO
    rw [HV.out] at HO
    generalize objsOf pre = m0 at *
    clear hx2 hb2 hba hx hb HV hr hN hpl hbel hbx
    gi_wp2
    all_goals refine ⟨(KeepsOthers.setCell _ _ _).from _, KeepX.grown (grownBy_setCellK W2 (w.heap.size + 1) 0 _) (fun k cs T fr hk hc => by cases hk; exact ⟨fun _ => rfl, fun h => by omega⟩), ?_, HB2.out.grown (grownBy_setCellK W2 (w.heap.size + 1) 0 _) HB2.out.size (fun k hk => by cases hk; omega)⟩
    · have e : objsOf (pre ++ [⟨f0, f1, f2, f3⟩]) = v := by rw [HO.out]; unfold mx; split <;> omega
      show Boxed _ _ 3 (.int .i64 (objsOf (pre ++ [⟨f0, f1, f2, f3⟩])))
      rw [e]
      exact HX2.out.set _
    · have e : objsOf (pre ++ [⟨f0, f1, f2, f3⟩]) = m0 := by rw [HO.out]; unfold mx; split <;> omega
      show Boxed _ _ 3 (.int .i64 (objsOf (pre ++ [⟨f0, f1, f2, f3⟩])))
      rw [e]
      exact HX2.out.set _
  case done =>
    rintro D xs W hD rfl ⟨hx, hb⟩ hK
    have hc := hx.cell
    gi_wp2_with fail
    refine ⟨by simp, .inl ⟨_, _, rfl, run_takeDeferred hK, ?_⟩⟩
    exact ⟨.int .i64 (objsOf (outP pl N)), by simp [results, Try.results41, go_sem], rfl, hb.grown (grownBy_putObj' W D (.deferred none)) (by have := hb.size; omega) (fun k e => by cases e; omega)⟩
end Go.Proofs.Ytpaapnkpijincaa.P
