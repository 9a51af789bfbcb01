import Derived.BigRegionIn
import Derived.Lib.SmallJoins
import Derived.Test.YtpaapnkpijincaaHK
import Derived.Test.YtpaapnkpijincaaF1
namespace Go.Proofs.Ytpaapnkpijincaa.P
open Go.RowKit Go.Proofs.YtpaapnkpijincaaW.PrintWords Go.Proofs.YtpaapnkpijincaaW.PrintLast Go.Proofs.YtpaapnkpijincaaW.PrintMore Go.Proofs.YtpaapnkpijincaaW.HB
set_option linter.unusedVariables false
set_option linter.unusedSimpArgs false
attribute [local go_sem] Oper.semAt_some

/-! the pieces of a range: what the iterator holds and has handed out -/
def stP (pl : Nat → Int × Int) : Nat → S46 × List S46
  | 0 => (⟨0, 0, 0, 0⟩, [])
  | i + 1 => if 0 < (stP pl i).1.f2 ∧ (pl i).1 = (stP pl i).1.f0 ∧ (pl i).2 = wrap64 ((stP pl i).1.f1 + (stP pl i).1.f2) then
      (⟨(stP pl i).1.f0, (stP pl i).1.f1, (stP pl i).1.f2 + 1, (stP pl i).1.f3⟩, (stP pl i).2)
    else (⟨(pl i).1, (pl i).2, 1, i⟩, if 0 < (stP pl i).1.f2 then (stP pl i).2 ++ [(stP pl i).1] else (stP pl i).2)
theorem stP_succ (pl : Nat → Int × Int) (i : Nat) : stP pl (i + 1) = if 0 < (stP pl i).1.f2 ∧ (pl i).1 = (stP pl i).1.f0 ∧ (pl i).2 = wrap64 ((stP pl i).1.f1 + (stP pl i).1.f2) then
      (⟨(stP pl i).1.f0, (stP pl i).1.f1, (stP pl i).1.f2 + 1, (stP pl i).1.f3⟩, (stP pl i).2)
    else (⟨(pl i).1, (pl i).2, 1, i⟩, if 0 < (stP pl i).1.f2 then (stP pl i).2 ++ [(stP pl i).1] else (stP pl i).2) := rfl
def outP (pl : Nat → Int × Int) (n : Nat) : List S46 := if 0 < (stP pl n).1.f2 then (stP pl n).2 ++ [(stP pl n).1] else (stP pl n).2
theorem stP_ok (pl : Nat → Int × Int) : ∀ i, 0 ≤ (stP pl i).1.f2 ∧ (stP pl i).1.f2 ≤ i ∧ (stP pl i).2.length ≤ i
  | 0 => by simp [stP]
  | i + 1 => by
    obtain ⟨h1, h2, h3⟩ := stP_ok pl i
    rw [stP]
    split
    · dsimp only; omega
    · dsimp only
      refine ⟨by omega, by omega, ?_⟩
      split
      · rw [List.length_append]; simp; omega
      · omega
theorem eqA89 (d : Nat) (w : World) (x0 y0 : Int) (x1 y1 : Int) :
    (Op.equalIn (d + 2) 89 (.agg #[.int .i64 x0, .int .i64 x1]) (.agg #[.int .i64 y0, .int .i64 y1])).run Try.prog w = .ok (x0 == y0 && (x1 == y1)) w := by
  refine eqA_of Try.underlying89 (by kernel_rfl) ?_
  refine eqf_cons (by rfl) (by go_simp; rfl) (by go_simp; rfl) (by go_simp) ?_
  exact eqf_last (by rfl) (by go_simp; rfl) (by go_simp; rfl) (by go_simp)
attribute [local go_sem high] eqA89
def FBox (w : World) (b : Nat) (f : S46) : Prop := w.heap[b]? = some (.cells #[.int .i64 f.f0, .int .i64 f.f1, .int .i64 f.f2, .int .i64 f.f3] 46 (0, 0))
theorem FBox.lt {w : World} {b : Nat} {f : S46} (h : FBox w b f) : b < w.heap.size := (Array.getElem?_eq_some_iff.1 h).1
theorem FBox.cell {w : World} {b : Nat} {f : S46} (h : FBox w b f) : w.cell? ⟨b, 0, none⟩ = some (.int .i64 f.f0) ∧ w.cell? ⟨b, 1, none⟩ = some (.int .i64 f.f1) ∧ w.cell? ⟨b, 2, none⟩ = some (.int .i64 f.f2) ∧ w.cell? ⟨b, 3, none⟩ = some (.int .i64 f.f3) := by
  simp [World.cell?, show w.heap[b]? = _ from h]
theorem FBox.frozen {w : World} {b : Nat} {f : S46} (h : FBox w b f) (k : Nat) : w.frozen? ⟨b, k, none⟩ = false := by
  simp [World.frozen?, show w.heap[b]? = _ from h]
theorem FBox.below {w w' : World} {b B : Nat} {f : S46} (h : FBox w b f) (hb : Below B w w') (hB : b < B) : FBox w' b f := (hb.block b hB).trans h
theorem FBox.set2 {w : World} {b : Nat} {f : S46} (h : FBox w b f) (v : Int) : FBox (w.setCell ⟨b, 2, none⟩ (.int .i64 v)) b ⟨f.f0, f.f1, v, f.f3⟩ := by
  have h0 : w.heap[b]? = _ := h
  show (w.heap.modify b _)[b]? = _
  rw [Array.getElem?_modify, if_pos rfl, h0]
  rfl
theorem heap_set {w : World} {b : Nat} {cs : Array Value} {t : TypeId} {fr : Nat × Nat} (h : w.heap[b]? = some (.cells cs t fr)) (k : Nat) (v : Value) : (w.setCell ⟨b, k, none⟩ v).heap[b]? = some (.cells (cs.setIfInBounds k v) t fr) := by
  show (w.heap.modify b _)[b]? = _
  rw [Array.getElem?_modify, if_pos rfl, h]
  rfl
def put4 (w : World) (b : Nat) (f : S46) : World := (((w.setCell ⟨b, 0, none⟩ (.int .i64 f.f0)).setCell ⟨b, 1, none⟩ (.int .i64 f.f1)).setCell ⟨b, 2, none⟩ (.int .i64 f.f2)).setCell ⟨b, 3, none⟩ (.int .i64 f.f3)
theorem FBox.put4 {w : World} {b : Nat} {f : S46} (h : FBox w b f) (g : S46) : FBox (put4 w b g) b g := heap_set (heap_set (heap_set (heap_set h 0 _) 1 _) 2 _) 3 _
theorem below_put4 (w : World) (b B : Nat) (f : S46) (hB : B ≤ b) (hw : B ≤ w.heap.size) : Below B w (put4 w b f) := by
  have st : ∀ (x : World) (k : Nat) (v : Value), Below B w x → Below B w (x.setCell ⟨b, k, none⟩ v) := fun x k v h => h.grown (grownBy_setCellK x b k v) (by have := h.size; omega) (fun r e => by cases e; exact hB)
  exact st _ _ _ (st _ _ _ (st _ _ _ (st _ _ _ (Below.refl _ _))))
theorem i64w (x : Int) : IntKind.i64.wrap x = wrap64 x := by unfold wrap64; simp [IntKind.wrap, IntKind.signed, IntKind.bits]; omega
set_option maxRecDepth 100000 in
set_option maxHeartbeats 4000000 in
theorem pieces_1_in (u c o : Int) (N : Nat) (hN : N ≤ 4096) (pl : Nat → Int × Int) (hpl : ∀ i, i < N → stripe_find.f u c o (i : Int) = some (pl i)) (l : Nat) (bn byy bo N0 : Nat) (X Ts : Nat → Prop) (hTs : Ts 46) (hTs2 : Ts 89)
    (hbn : bn < N0) (hby : byy < N0) (hbo : bo < N0) (hXn : ¬ X bn) (hXy : ¬ X byy) (hXo : ¬ X bo)
    (J : List S46 → World → Prop) (W : World) (hNW : N0 ≤ W.heap.size) (hJ : Abides2 W.heap.size J)
    (hY : ∀ pre x W1, J pre W1 → pre.length < 4097 → YieldAt Fence.wide 7 Try.prog l #[.agg #[.int .i64 x.f0, .int .i64 x.f1, .int .i64 x.f2, .int .i64 x.f3]] W1 fun e W' => e = .returned (.bool true) ∧ J (pre ++ [x]) W' ∧ KeepX N0 X Ts W1 W')
    (hBn : W.cell? ⟨bn, 0, none⟩ = some (.int .i64 N)) (hBo : W.cell? ⟨bo, 0, none⟩ = some (.int .i64 0))
    (hBy0 : W.cell? ⟨byy, 0, none⟩ = some (.int .i64 u)) (hBy1 : W.cell? ⟨byy, 1, none⟩ = some (.int .i64 c)) (hBy2 : W.cell? ⟨byy, 2, none⟩ = some (.int .i64 o)) (h0 : J [] W) :
    CallsIn Fence.wide 8 Try.prog 61 #[.func (.yield l) #[] #[], .pointer (some ⟨bn, 0, none⟩), .pointer (some ⟨byy, 0, none⟩), .pointer (some ⟨bo, 0, none⟩)] W fun e W' => (∃ v, e = .returned v) ∧ J (outP pl N) W' := by
  refine callsIn_of_wp Try.func61 rfl trivial ?_ rfl
  simp only [Try.ntmps61, List.size_toArray, List.length_cons, List.length_nil, Nat.reduceAdd, Nat.reduceSub, Array.replicate_succ, Array.replicate_zero, List.push_toArray, List.append_toArray, List.nil_append, List.cons_append]
  have hba := (Below.refl _ W).alloc (Nat.le_refl _) (.cells #[.int .i64 0, .int .i64 0, .int .i64 0, .int .i64 0] 46)
  have hBn1 := (hba.cell (by omega : bn < W.heap.size)).trans hBn
  have hBo1 := (hba.cell (by omega : bo < W.heap.size)).trans hBo
  have hBy01 := (hba.cell (by omega : byy < W.heap.size)).trans hBy0
  have hBy11 := (hba.cell (by omega : byy < W.heap.size)).trans hBy1
  have hBy21 := (hba.cell (by omega : byy < W.heap.size)).trans hBy2
  have hfb := World.alloc_heap_new W (.cells #[.int .i64 0, .int .i64 0, .int .i64 0, .int .i64 0] 46)
  have hsa := World.size_alloc W (.cells #[.int .i64 0, .int .i64 0, .int .i64 0, .int .i64 0] 46)
  have hJ1 := hJ _ _ _ h0 hba
  clear hBn hBo hBy0 hBy1 hBy2 h0
  gi_wp2
  gi_loopw [9] (fun i wr => ∃ k : Nat, k ≤ N ∧ i = .int .i64 k ∧ Aside0 (J (stP pl k).2 wr) ∧ Aside0 (FBox wr W.heap.size (stP pl k).1) ∧
      Aside0 (wr.cell? ⟨bo, 0, none⟩ = some (.int .i64 0) ∧ wr.cell? ⟨byy, 0, none⟩ = some (.int .i64 u) ∧ wr.cell? ⟨byy, 1, none⟩ = some (.int .i64 c) ∧ wr.cell? ⟨byy, 2, none⟩ = some (.int .i64 o))) (fun i _ => N - (intOf i).toNat)
  case atStart => exact ⟨0, Nat.zero_le _, rfl, ⟨hJ1⟩, ⟨hfb⟩, ⟨hBo1, hBy01, hBy11, hBy21⟩⟩
  case round =>
    obtain ⟨i, hi, rfl, HJ, HF, HC⟩ := hrel
    have hlN := HF.out.lt
    obtain ⟨c1, c2, c3, c4⟩ := HC.out
    by_cases hlt : i < N
    · obtain ⟨F2a, F2b, F2c⟩ := stP_ok pl i
      have hw0 : IntKind.i64.wrap ((0 : Int) + (i : Int)) = (i : Int) := by simp [IntKind.wrap, IntKind.signed, IntKind.bits]; omega
      have hw0' : IntKind.i64.wrap (i : Int) = (i : Int) := by simp [IntKind.wrap, IntKind.signed, IntKind.bits]; omega
      have HP := Aside0.mk (hpl i hlt)
      have HS := Aside0.mk (stP_succ pl i)
      generalize hP1 : (pl i).1 = P1 at HS
      generalize hP2 : (pl i).2 = P2 at HS
      have hpe : pl i = (P1, P2) := by rw [← hP1, ← hP2]
      rw [hpe] at HP
      clear hP1 hP2 hpe
      generalize hst : stP pl i = st at *
      obtain ⟨f, out⟩ := st
      dsimp only at F2a F2b F2c HS HJ HF
      have hq0 : (i : Int) < (N : Int) := by omega
      clear hst
      obtain ⟨f0, f1, f2, f3⟩ := f
      dsimp only at F2a F2b F2c HS
      have hw3 := i64w (f1 + f2)
      generalize wrap64 (f1 + f2) = q at HS hw3
      have hw4 : IntKind.i64.wrap (f2 + 1) = f2 + 1 := by simp [IntKind.wrap, IntKind.signed, IntKind.bits]; omega
      by_cases hpos : 0 < f2
      · have hd : decide (f2 > 0) = true := decide_eq_true hpos
        by_cases heq : P1 = f0 ∧ P2 = q
        · obtain ⟨rfl, rfl⟩ := heq
          rw [if_pos ⟨hpos, rfl, rfl⟩] at HS
          gi_wp2_with (refine ⟨trivial, ?_⟩; gi_at_call 62; refine (callsIn_wide.2 (stripe_find.calls u c o (i : Int) _ _ _ HP.out)).mono ?_; rintro e w1 ⟨rfl, hb1⟩; have HB2 := Aside0.mk (hb1.alloc hb1.size (.cells #[.int .i64 P1, .int .i64 P2] 89)); have HF2 := Aside0.mk (HF.out.below HB2.out hlN); obtain ⟨g0, g1, g2, g3⟩ := HF2.out.cell; have z0 := HF2.out.frozen 0; have z1 := HF2.out.frozen 1; have z2 := HF2.out.frozen 2; have z3 := HF2.out.frozen 3; have PF := Aside0.mk (World.alloc_heap_new w1 (.cells #[.int .i64 P1, .int .i64 P2] 89)); have p0 := cell_fresh w1 #[.int .i64 P1, .int .i64 P2] 89 0 _ rfl; have p1 := cell_fresh w1 #[.int .i64 P1, .int .i64 P2] 89 1 _ rfl; clear hb1 c1 c2 c3 c4)
          go_roundw
          case rel =>
            have hb3 := (HB2.out.mono (show W.heap.size ≤ wr.heap.size by omega)).grown (grownBy_setCellK _ W.heap.size 2 (.int .i64 (f2 + 1))) (by have := HB2.out.size; omega) (fun k hk => by cases hk; omega)
            obtain ⟨c1, c2, c3, c4⟩ := HC.out
            refine ⟨i + 1, by omega, by go_num, ?_, ?_, ?_⟩
            · rw [HS.out]; exact ⟨hJ _ _ _ HJ.out hb3⟩
            · rw [HS.out]; exact ⟨HF2.out.set2 _⟩
            · exact ⟨(hb3.cell (by omega : bo < W.heap.size)).trans c1, (hb3.cell (by omega : byy < W.heap.size)).trans c2, (hb3.cell (by omega : byy < W.heap.size)).trans c3, (hb3.cell (by omega : byy < W.heap.size)).trans c4⟩
          case measure => simp [intOf]; omega
        · have hne : (P1 == f0 && P2 == q) = false := by
            rw [Bool.and_eq_false_iff, beq_eq_false_iff_ne, beq_eq_false_iff_ne]
            rcases Classical.em (P1 = f0) with h | h
            · exact .inr (fun h2 => heq ⟨h, h2⟩)
            · exact .inl h
          rw [if_neg (fun h => heq h.2), if_pos hpos] at HS
          gi_wp2_with (refine ⟨trivial, ?_⟩; gi_at_call 62; refine (callsIn_wide.2 (stripe_find.calls u c o (i : Int) _ _ _ HP.out)).mono ?_; rintro e w1 ⟨rfl, hb1⟩; have HB2 := Aside0.mk (hb1.alloc hb1.size (.cells #[.int .i64 P1, .int .i64 P2] 89)); have HF2 := Aside0.mk (HF.out.below HB2.out hlN); obtain ⟨g0, g1, g2, g3⟩ := HF2.out.cell; have z0 := HF2.out.frozen 0; have z1 := HF2.out.frozen 1; have z2 := HF2.out.frozen 2; have z3 := HF2.out.frozen 3; have PF := Aside0.mk (World.alloc_heap_new w1 (.cells #[.int .i64 P1, .int .i64 P2] 89)); have p0 := cell_fresh w1 #[.int .i64 P1, .int .i64 P2] 89 0 _ rfl; have p1 := cell_fresh w1 #[.int .i64 P1, .int .i64 P2] 89 1 _ rfl; clear hb1 c1 c2 c3 c4; obtain ⟨fn, tmps, assign, body, hy, hR⟩ := hY out ⟨f0, f1, f2, f3⟩ _ (hJ _ _ _ HJ.out (HB2.out.mono (by omega))) (by omega))
          refine hR.mono ?_
          rintro e W3 ⟨rfl, hJ3, hk3⟩
          have HJ3 := Aside0.mk hJ3
          have hb2 := HB2.out.mono (show W.heap.size ≤ wr.heap.size by omega)
          obtain ⟨c1, c2, c3, c4⟩ := HC.out
          have HC3 := Aside0.mk (show W3.cell? ⟨bo, 0, none⟩ = some (.int .i64 0) ∧ W3.cell? ⟨byy, 0, none⟩ = some (.int .i64 u) ∧ W3.cell? ⟨byy, 1, none⟩ = some (.int .i64 c) ∧ W3.cell? ⟨byy, 2, none⟩ = some (.int .i64 o) from
            ⟨hk3.cell ((hb2.cell (by omega : bo < W.heap.size)).trans c1) hbo hXo, hk3.cell ((hb2.cell (by omega : byy < W.heap.size)).trans c2) hby hXy, hk3.cell ((hb2.cell (by omega : byy < W.heap.size)).trans c3) hby hXy, hk3.cell ((hb2.cell (by omega : byy < W.heap.size)).trans c4) hby hXy⟩)
          have HF3 := Aside0.mk (show FBox W3 W.heap.size ⟨f0, f1, f2, f3⟩ from hk3.new HF2.out hNW hTs)
          have hsz1 : N0 ≤ w1.heap.size := by have h1 := HF2.out.lt; have h2 := HB2.out.size; have h3 := World.size_alloc w1 (.cells #[.int .i64 P1, .int .i64 P2] 89); omega
          have PF3 := hk3.new PF.out hsz1 hTs2
          have p03 : W3.cell? ⟨w1.heap.size, 0, none⟩ = some (.int .i64 P1) := by simp [World.cell?, PF3]
          have p13 : W3.cell? ⟨w1.heap.size, 1, none⟩ = some (.int .i64 P2) := by simp [World.cell?, PF3]
          obtain ⟨x0, x1, x2, x3⟩ := HF3.out.cell
          have y0 := HF3.out.frozen 0
          have y1 := HF3.out.frozen 1
          have y2 := HF3.out.frozen 2
          have y3 := HF3.out.frozen 3
          clear PF3 hJ3 hk3 hb2 c1 c2 c3 c4 g0 g1 g2 g3 z0 z1 z2 z3 p0 p1 hR hy
          gi_wp2
          go_roundw
          case rel =>
            have hb3 := below_put4 W3 W.heap.size W.heap.size ⟨P1, P2, 1, i⟩ (Nat.le_refl _) (by have := HF3.out.lt; omega)
            obtain ⟨c1, c2, c3, c4⟩ := HC3.out
            refine ⟨i + 1, by omega, by go_num, ?_, ?_, ?_⟩
            · rw [HS.out]; exact ⟨hJ _ _ _ HJ3.out hb3⟩
            · rw [HS.out]; exact ⟨HF3.out.put4 ⟨P1, P2, 1, i⟩⟩
            · exact ⟨(hb3.cell (by omega : bo < W.heap.size)).trans c1, (hb3.cell (by omega : byy < W.heap.size)).trans c2, (hb3.cell (by omega : byy < W.heap.size)).trans c3, (hb3.cell (by omega : byy < W.heap.size)).trans c4⟩
          case measure => simp [intOf]; omega
      · have hd : decide (f2 > 0) = false := decide_eq_false hpos
        rw [if_neg (fun h => hpos h.1), if_neg hpos] at HS
        gi_wp2_with (refine ⟨trivial, ?_⟩; gi_at_call 62; refine (callsIn_wide.2 (stripe_find.calls u c o (i : Int) _ _ _ HP.out)).mono ?_; rintro e w1 ⟨rfl, hb1⟩; have HB2 := Aside0.mk (hb1.alloc hb1.size (.cells #[.int .i64 P1, .int .i64 P2] 89)); have HF2 := Aside0.mk (HF.out.below HB2.out hlN); obtain ⟨g0, g1, g2, g3⟩ := HF2.out.cell; have z0 := HF2.out.frozen 0; have z1 := HF2.out.frozen 1; have z2 := HF2.out.frozen 2; have z3 := HF2.out.frozen 3; have PF := Aside0.mk (World.alloc_heap_new w1 (.cells #[.int .i64 P1, .int .i64 P2] 89)); have p0 := cell_fresh w1 #[.int .i64 P1, .int .i64 P2] 89 0 _ rfl; have p1 := cell_fresh w1 #[.int .i64 P1, .int .i64 P2] 89 1 _ rfl; clear hb1 c1 c2 c3 c4)
        refine ⟨fun _ h => (by cases h), ?_⟩
        gi_wp2
        go_roundw
        case rel =>
          have hb2 := HB2.out.mono (show W.heap.size ≤ wr.heap.size by omega)
          have hb3 := hb2.trans (below_put4 _ W.heap.size W.heap.size ⟨P1, P2, 1, i⟩ (Nat.le_refl _) (by have := HF2.out.lt; omega))
          obtain ⟨c1, c2, c3, c4⟩ := HC.out
          refine ⟨i + 1, by omega, by go_num, ?_, ?_, ?_⟩
          · rw [HS.out]; exact ⟨hJ _ _ _ HJ.out hb3⟩
          · rw [HS.out]; exact ⟨HF2.out.put4 ⟨P1, P2, 1, i⟩⟩
          · exact ⟨(hb3.cell (by omega : bo < W.heap.size)).trans c1, (hb3.cell (by omega : byy < W.heap.size)).trans c2, (hb3.cell (by omega : byy < W.heap.size)).trans c3, (hb3.cell (by omega : byy < W.heap.size)).trans c4⟩
        case measure => simp [intOf]; omega
    · have HE := Aside0.mk (show i = N from by omega)
      obtain ⟨g0, g1, g2, g3⟩ := HF.out.cell
      have HO := Aside0.mk (show outP pl i = if 0 < (stP pl i).1.f2 then (stP pl i).2 ++ [(stP pl i).1] else (stP pl i).2 from rfl)
      obtain ⟨F2a, F2b, F2c⟩ := stP_ok pl i
      generalize hst : stP pl i = st at *
      obtain ⟨f, out⟩ := st
      clear hst
      obtain ⟨f0, f1, f2, f3⟩ := f
      dsimp only at F2a F2b F2c g0 g1 g2 g3 HJ HF HO
      by_cases hpos : 0 < f2
      · have hd : decide (f2 > 0) = true := decide_eq_true hpos
        rw [if_pos hpos] at HO
        obtain ⟨fn, tmps, assign, body, hy, hR⟩ := hY out ⟨f0, f1, f2, f3⟩ _ HJ.out (by omega)
        gi_wp2
        refine hR.mono ?_
        rintro e W3 ⟨rfl, hJ3, hk3⟩
        have HJ3 := Aside0.mk hJ3
        clear hJ3 hk3 hR hy
        gi_wp2
        go_end0
        rw [← HE.out, HO.out]
        exact ⟨⟨_, rfl⟩, HJ3.out⟩
      · have hd : decide (f2 > 0) = false := decide_eq_false hpos
        rw [if_neg hpos] at HO
        gi_wp2
        go_end0
        rw [← HE.out, HO.out]
        exact ⟨⟨_, rfl⟩, HJ.out⟩
end Go.Proofs.Ytpaapnkpijincaa.P
