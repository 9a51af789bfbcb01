/- Texts of this claim, merged by pack.py: W4 -/
import Derived.Test.YtbdciklcckjknaaZT18
import Derived.Test.YtbdciklcckjknaaZT20
namespace Go.Proofs.Ytbdciklcckjknaa.P
open Go.RowKit Go.Proofs.YtbdciklcckjknaaW.PrintWords Go.Proofs.YtbdciklcckjknaaW.PrintLast Go.Proofs.YtbdciklcckjknaaW.PrintMore Go.Proofs.YtbdciklcckjknaaW.HB
set_option linter.unusedVariables false
set_option linter.unusedSimpArgs false
theorem alloc_heap_old {w : World} {o : Obj} {b : Nat} {u : Obj} (h : w.heap[b]? = some u) : (w.alloc o).heap[b]? = some u := by
  have hlt := (Array.getElem?_eq_some_iff.1 h).1
  show (w.heap.push o)[b]? = _
  rw [Array.getElem?_push_lt hlt, ← h, Array.getElem?_eq_getElem hlt]
theorem tcells0 {W : World} {g : Nat} {x : S34} (h : W.heap[g]? = some (.cells #[.int .i64 x.f0.f0, .int .i64 x.f0.f1, .int .i64 x.f1.f0, .int .i64 x.f1.f1, .int .i64 x.f1.f2, .int .i64 x.f1.f3.f0, .string x.f1.f3.f1, .int .i64 x.f1.f3.f2, .int .i64 x.f1.f3.f3, .string x.f1.f3.f4, .int .i64 x.f2.f0, .int .i64 x.f2.f1, .int .i64 x.f2.f2, .string x.f2.f3] 34 (0, 0))) : (∀ m : BelowOf W, m.v.cell? ⟨g, 0, none⟩ = some (.int .i64 x.f0.f0)) ∧ (∀ m : BelowOf W, m.v.cell? ⟨g, 1, none⟩ = some (.int .i64 x.f0.f1)) ∧ (∀ m : BelowOf W, m.v.cell? ⟨g, 2, none⟩ = some (.int .i64 x.f1.f0)) ∧ (∀ m : BelowOf W, m.v.cell? ⟨g, 3, none⟩ = some (.int .i64 x.f1.f1)) ∧ (∀ m : BelowOf W, m.v.cell? ⟨g, 4, none⟩ = some (.int .i64 x.f1.f2)) ∧ (∀ m : BelowOf W, m.v.cell? ⟨g, 5, none⟩ = some (.int .i64 x.f1.f3.f0)) ∧ (∀ m : BelowOf W, m.v.cell? ⟨g, 6, none⟩ = some (.string x.f1.f3.f1)) ∧ (∀ m : BelowOf W, m.v.cell? ⟨g, 7, none⟩ = some (.int .i64 x.f1.f3.f2)) ∧ (∀ m : BelowOf W, m.v.cell? ⟨g, 8, none⟩ = some (.int .i64 x.f1.f3.f3)) ∧ (∀ m : BelowOf W, m.v.cell? ⟨g, 9, none⟩ = some (.string x.f1.f3.f4)) ∧ (∀ m : BelowOf W, m.v.cell? ⟨g, 10, none⟩ = some (.int .i64 x.f2.f0)) ∧ (∀ m : BelowOf W, m.v.cell? ⟨g, 11, none⟩ = some (.int .i64 x.f2.f1)) ∧ (∀ m : BelowOf W, m.v.cell? ⟨g, 12, none⟩ = some (.int .i64 x.f2.f2)) ∧ (∀ m : BelowOf W, m.v.cell? ⟨g, 13, none⟩ = some (.string x.f2.f3)) := by
  refine ⟨?_, ?_, ?_, ?_, ?_, ?_, ?_, ?_, ?_, ?_, ?_, ?_, ?_, ?_⟩ <;> exact BelowOf.cell (by simp [World.cell?, h])
theorem tcells1 {W : World} {g : Nat} {p n les le lv : Int} {A5 A6 A7 : Option Addr} {c5 c6 c7 : Nat} {l : List S34} {d : List S73} {o : List S83} (h : W.heap[g]? = some (.cells #[.int .i64 p, .int .i64 n, .int .i64 les, .int .i64 le, .int .i64 lv, .slice A5 l.length c5, .slice A6 d.length c6, .slice A7 o.length c7] 55 (0, 0))) : (∀ m : BelowOf W, m.v.cell? ⟨g, 0, none⟩ = some (.int .i64 p)) ∧ (∀ m : BelowOf W, m.v.cell? ⟨g, 1, none⟩ = some (.int .i64 n)) ∧ (∀ m : BelowOf W, m.v.cell? ⟨g, 2, none⟩ = some (.int .i64 les)) ∧ (∀ m : BelowOf W, m.v.cell? ⟨g, 3, none⟩ = some (.int .i64 le)) ∧ (∀ m : BelowOf W, m.v.cell? ⟨g, 4, none⟩ = some (.int .i64 lv)) ∧ (∀ m : BelowOf W, m.v.cell? ⟨g, 5, none⟩ = some (.slice A5 l.length c5)) ∧ (∀ m : BelowOf W, m.v.cell? ⟨g, 6, none⟩ = some (.slice A6 d.length c6)) ∧ (∀ m : BelowOf W, m.v.cell? ⟨g, 7, none⟩ = some (.slice A7 o.length c7)) := by
  refine ⟨?_, ?_, ?_, ?_, ?_, ?_, ?_, ?_⟩ <;> exact BelowOf.cell (by simp [World.cell?, h])
theorem tcells3 {W : World} {g : Nat} {a b : Int} (h : W.heap[g]? = some (.cells #[.int .i64 a, .int .i64 b] 24 (0, 0))) : (∀ m : BelowOf W, m.v.cell? ⟨g, 0, none⟩ = some (.int .i64 a)) ∧ (∀ m : BelowOf W, m.v.cell? ⟨g, 1, none⟩ = some (.int .i64 b)) := by
  refine ⟨?_, ?_⟩ <;> exact BelowOf.cell (by simp [World.cell?, h])
set_option maxRecDepth 100000 in
set_option maxHeartbeats 8000000 in
theorem tells_walk (x : S34) (p n les le lv : Int) (A5 A6 A7 : Option Addr) (c5 c6 c7 : Nat) (l : List S34) (d : List S73) (o : List S83) (p' n' les' le' lv' : Int) (A5' A6' A7' : Option Addr) (c5' c6' c7' : Nat) (l' : List S34) (d' : List S73) (o' : List S83) (a b : Int) (be bl bf bs bm bt : Bool) (w : World)
    (hEN : ∀ W0, Below w.heap.size w W0 → Calls Try.prog 22 #[.agg #[.int .i64 x.f0.f0, .int .i64 x.f0.f1, .int .i64 x.f1.f0, .int .i64 x.f1.f1, .int .i64 x.f1.f2, .int .i64 x.f1.f3.f0, .string x.f1.f3.f1, .int .i64 x.f1.f3.f2, .int .i64 x.f1.f3.f3, .string x.f1.f3.f4, .int .i64 x.f2.f0, .int .i64 x.f2.f1, .int .i64 x.f2.f2, .string x.f2.f3]] W0 fun e w' => e = .returned (.bool be) ∧ Below W0.heap.size W0 w')
    (hRE : ∀ W0, Below w.heap.size w W0 → Calls Try.prog 23 #[.agg #[.int .i64 x.f0.f0, .int .i64 x.f0.f1, .int .i64 x.f1.f0, .int .i64 x.f1.f1, .int .i64 x.f1.f2, .int .i64 x.f1.f3.f0, .string x.f1.f3.f1, .int .i64 x.f1.f3.f2, .int .i64 x.f1.f3.f3, .string x.f1.f3.f4, .int .i64 x.f2.f0, .int .i64 x.f2.f1, .int .i64 x.f2.f2, .string x.f2.f3]] W0 fun e w' => e = .returned (.bool be) ∧ Below W0.heap.size W0 w')
    (hLG : ∀ W0, Below w.heap.size w W0 → Calls Try.prog 9 #[.slice A5 l.length c5, .agg #[.int .i64 a, .int .i64 b]] W0 fun e w' => e = .returned (.bool bl) ∧ Below W0.heap.size W0 w')
    (hRL : ∀ W0, Below w.heap.size w W0 → Calls Try.prog 11 #[.slice A5 l.length c5, .agg #[.int .i64 a, .int .i64 b]] W0 fun e w' => e = .returned (.bool bl) ∧ Below W0.heap.size W0 w')
    (hPF : ∀ W0, Below w.heap.size w W0 → Calls Try.prog 24 #[.agg #[.int .i64 p, .int .i64 n, .int .i64 les, .int .i64 le, .int .i64 lv, .slice A5 l.length c5, .slice A6 d.length c6, .slice A7 o.length c7]] W0 fun e w' => e = .returned (.bool bf) ∧ Below W0.heap.size W0 w')
    (hRF : ∀ W0, Below w.heap.size w W0 → Calls Try.prog 25 #[.agg #[.int .i64 p, .int .i64 n, .int .i64 les, .int .i64 le, .int .i64 lv, .slice A5 l.length c5, .slice A6 d.length c6, .slice A7 o.length c7]] W0 fun e w' => e = .returned (.bool bf) ∧ Below W0.heap.size W0 w')
    (hPS : ∀ W0, Below w.heap.size w W0 → Calls Try.prog 26 #[.agg #[.int .i64 p, .int .i64 n, .int .i64 les, .int .i64 le, .int .i64 lv, .slice A5 l.length c5, .slice A6 d.length c6, .slice A7 o.length c7], .agg #[.int .i64 p', .int .i64 n', .int .i64 les', .int .i64 le', .int .i64 lv', .slice A5' l'.length c5', .slice A6' d'.length c6', .slice A7' o'.length c7']] W0 fun e w' => e = .returned (.bool bs) ∧ Below W0.heap.size W0 w')
    (hRS : ∀ W0, Below w.heap.size w W0 → Calls Try.prog 27 #[.agg #[.int .i64 p, .int .i64 n, .int .i64 les, .int .i64 le, .int .i64 lv, .slice A5 l.length c5, .slice A6 d.length c6, .slice A7 o.length c7], .agg #[.int .i64 p', .int .i64 n', .int .i64 les', .int .i64 le', .int .i64 lv', .slice A5' l'.length c5', .slice A6' d'.length c6', .slice A7' o'.length c7']] W0 fun e w' => e = .returned (.bool bs) ∧ Below W0.heap.size W0 w')
    (hSM : ∀ W0, Below w.heap.size w W0 → Calls Try.prog 28 #[.slice A5 l.length c5, .slice A5' l'.length c5'] W0 fun e w' => e = .returned (.bool bm) ∧ Below W0.heap.size W0 w')
    (hRM : ∀ W0, Below w.heap.size w W0 → Calls Try.prog 14 #[.slice A5 l.length c5, .slice A5' l'.length c5'] W0 fun e w' => e = .returned (.bool bm) ∧ Below W0.heap.size W0 w')
    (hLA : ∀ W0, Below w.heap.size w W0 → Calls Try.prog 7 #[.agg #[.int .i64 le, .int .i64 lv], .agg #[.int .i64 a, .int .i64 b]] W0 fun e w' => e = .returned (.bool bt) ∧ Below W0.heap.size W0 w')
    (hRA : ∀ W0, Below w.heap.size w W0 → Calls Try.prog 29 #[.agg #[.int .i64 le, .int .i64 lv], .agg #[.int .i64 a, .int .i64 b]] W0 fun e w' => e = .returned (.bool bt) ∧ Below W0.heap.size W0 w')
    (hAW : ∀ W0, Below w.heap.size w W0 → Calls Try.prog 10 #[] W0 fun e w' => e = .returned (.bool true) ∧ Below W0.heap.size W0 w') :
    Calls Try.prog 6 #[.agg #[.int .i64 x.f0.f0, .int .i64 x.f0.f1, .int .i64 x.f1.f0, .int .i64 x.f1.f1, .int .i64 x.f1.f2, .int .i64 x.f1.f3.f0, .string x.f1.f3.f1, .int .i64 x.f1.f3.f2, .int .i64 x.f1.f3.f3, .string x.f1.f3.f4, .int .i64 x.f2.f0, .int .i64 x.f2.f1, .int .i64 x.f2.f2, .string x.f2.f3], .agg #[.int .i64 p, .int .i64 n, .int .i64 les, .int .i64 le, .int .i64 lv, .slice A5 l.length c5, .slice A6 d.length c6, .slice A7 o.length c7], .agg #[.int .i64 p', .int .i64 n', .int .i64 les', .int .i64 le', .int .i64 lv', .slice A5' l'.length c5', .slice A6' d'.length c6', .slice A7' o'.length c7'], .agg #[.int .i64 a, .int .i64 b]] w fun e w' => e = .returned (.bool true) ∧ Below w.heap.size w w' := by
  have hu := Try.underlying34
  have hu2 := Try.underlying55
  have hu3 := Try.underlying24
  have HEN := Aside0.mk hEN
  clear hEN
  have HRE := Aside0.mk hRE
  clear hRE
  have HLG := Aside0.mk hLG
  clear hLG
  have HRL := Aside0.mk hRL
  clear hRL
  have HPF := Aside0.mk hPF
  clear hPF
  have HRF := Aside0.mk hRF
  clear hRF
  have HPS := Aside0.mk hPS
  clear hPS
  have HRS := Aside0.mk hRS
  clear hRS
  have HSM := Aside0.mk hSM
  clear hSM
  have HRM := Aside0.mk hRM
  clear hRM
  have HLA := Aside0.mk hLA
  clear hLA
  have HRA := Aside0.mk hRA
  clear hRA
  have HAW := Aside0.mk hAW
  clear hAW
  go_enter Try.func6, Try.ntmps6
  go_wp2
  obtain ⟨W, hW⟩ : ∃ W, W = ((((w.alloc (.cells #[.int .i64 x.f0.f0, .int .i64 x.f0.f1, .int .i64 x.f1.f0, .int .i64 x.f1.f1, .int .i64 x.f1.f2, .int .i64 x.f1.f3.f0, .string x.f1.f3.f1, .int .i64 x.f1.f3.f2, .int .i64 x.f1.f3.f3, .string x.f1.f3.f4, .int .i64 x.f2.f0, .int .i64 x.f2.f1, .int .i64 x.f2.f2, .string x.f2.f3] 34)).alloc (.cells #[.int .i64 p, .int .i64 n, .int .i64 les, .int .i64 le, .int .i64 lv, .slice A5 l.length c5, .slice A6 d.length c6, .slice A7 o.length c7] 55)).alloc (.cells #[.int .i64 p', .int .i64 n', .int .i64 les', .int .i64 le', .int .i64 lv', .slice A5' l'.length c5', .slice A6' d'.length c6', .slice A7' o'.length c7'] 55)).alloc (.cells #[.int .i64 a, .int .i64 b] 24)) := ⟨_, rfl⟩
  obtain ⟨b0, hb0⟩ : ∃ b, b = w.heap.size := ⟨_, rfl⟩
  obtain ⟨b1, hb1⟩ : ∃ b, b = b0 + 1 := ⟨_, rfl⟩
  obtain ⟨b2, hb2⟩ : ∃ b, b = b1 + 1 := ⟨_, rfl⟩
  obtain ⟨b3, hb3⟩ : ∃ b, b = b2 + 1 := ⟨_, rfl⟩
  rw [← hW]
  rw [show w.heap.size + 1 + 1 + 1 = b3 from by omega, show w.heap.size + 1 + 1 = b2 from by omega, show w.heap.size + 1 = b1 from by omega, ← hb0]
  have HB := Aside0.mk (show Below w.heap.size w W from by rw [hW]; exact below_alloc (below_alloc (below_alloc (below_alloc (Below.refl _ _) _) _) _) _)
  have q0 : W.heap[b0]? = some (.cells #[.int .i64 x.f0.f0, .int .i64 x.f0.f1, .int .i64 x.f1.f0, .int .i64 x.f1.f1, .int .i64 x.f1.f2, .int .i64 x.f1.f3.f0, .string x.f1.f3.f1, .int .i64 x.f1.f3.f2, .int .i64 x.f1.f3.f3, .string x.f1.f3.f4, .int .i64 x.f2.f0, .int .i64 x.f2.f1, .int .i64 x.f2.f2, .string x.f2.f3] 34 (0, 0)) := by rw [hW, hb0]; exact alloc_heap_old (alloc_heap_old (alloc_heap_old (World.alloc_heap_new _ _)))
  have q1 : W.heap[b1]? = some (.cells #[.int .i64 p, .int .i64 n, .int .i64 les, .int .i64 le, .int .i64 lv, .slice A5 l.length c5, .slice A6 d.length c6, .slice A7 o.length c7] 55 (0, 0)) := by
    rw [hW, hb1, hb0]; refine alloc_heap_old (alloc_heap_old ?_)
    have := World.alloc_heap_new (w.alloc (.cells #[.int .i64 x.f0.f0, .int .i64 x.f0.f1, .int .i64 x.f1.f0, .int .i64 x.f1.f1, .int .i64 x.f1.f2, .int .i64 x.f1.f3.f0, .string x.f1.f3.f1, .int .i64 x.f1.f3.f2, .int .i64 x.f1.f3.f3, .string x.f1.f3.f4, .int .i64 x.f2.f0, .int .i64 x.f2.f1, .int .i64 x.f2.f2, .string x.f2.f3] 34)) (.cells #[.int .i64 p, .int .i64 n, .int .i64 les, .int .i64 le, .int .i64 lv, .slice A5 l.length c5, .slice A6 d.length c6, .slice A7 o.length c7] 55)
    rw [World.size_alloc] at this; exact this
  have q2 : W.heap[b2]? = some (.cells #[.int .i64 p', .int .i64 n', .int .i64 les', .int .i64 le', .int .i64 lv', .slice A5' l'.length c5', .slice A6' d'.length c6', .slice A7' o'.length c7'] 55 (0, 0)) := by
    rw [hW, hb2, hb1, hb0]; refine alloc_heap_old ?_
    have := World.alloc_heap_new ((w.alloc (.cells #[.int .i64 x.f0.f0, .int .i64 x.f0.f1, .int .i64 x.f1.f0, .int .i64 x.f1.f1, .int .i64 x.f1.f2, .int .i64 x.f1.f3.f0, .string x.f1.f3.f1, .int .i64 x.f1.f3.f2, .int .i64 x.f1.f3.f3, .string x.f1.f3.f4, .int .i64 x.f2.f0, .int .i64 x.f2.f1, .int .i64 x.f2.f2, .string x.f2.f3] 34)).alloc (.cells #[.int .i64 p, .int .i64 n, .int .i64 les, .int .i64 le, .int .i64 lv, .slice A5 l.length c5, .slice A6 d.length c6, .slice A7 o.length c7] 55)) (.cells #[.int .i64 p', .int .i64 n', .int .i64 les', .int .i64 le', .int .i64 lv', .slice A5' l'.length c5', .slice A6' d'.length c6', .slice A7' o'.length c7'] 55)
    rw [World.size_alloc, World.size_alloc] at this; exact this
  have q3 : W.heap[b3]? = some (.cells #[.int .i64 a, .int .i64 b] 24 (0, 0)) := by
    rw [hW, hb3, hb2, hb1, hb0]
    have := World.alloc_heap_new (((w.alloc (.cells #[.int .i64 x.f0.f0, .int .i64 x.f0.f1, .int .i64 x.f1.f0, .int .i64 x.f1.f1, .int .i64 x.f1.f2, .int .i64 x.f1.f3.f0, .string x.f1.f3.f1, .int .i64 x.f1.f3.f2, .int .i64 x.f1.f3.f3, .string x.f1.f3.f4, .int .i64 x.f2.f0, .int .i64 x.f2.f1, .int .i64 x.f2.f2, .string x.f2.f3] 34)).alloc (.cells #[.int .i64 p, .int .i64 n, .int .i64 les, .int .i64 le, .int .i64 lv, .slice A5 l.length c5, .slice A6 d.length c6, .slice A7 o.length c7] 55)).alloc (.cells #[.int .i64 p', .int .i64 n', .int .i64 les', .int .i64 le', .int .i64 lv', .slice A5' l'.length c5', .slice A6' d'.length c6', .slice A7' o'.length c7'] 55)) (.cells #[.int .i64 a, .int .i64 b] 24)
    rw [World.size_alloc, World.size_alloc, World.size_alloc] at this; exact this
  clear hW hb0 hb1 hb2 hb3
  obtain ⟨y00, y01, y02, y03, y04, y05, y06, y07, y08, y09, y010, y011, y012, y013⟩ := tcells0 q0
  obtain ⟨y10, y11, y12, y13, y14, y15, y16, y17⟩ := tcells1 q1
  obtain ⟨y20, y21, y22, y23, y24, y25, y26, y27⟩ := tcells1 q2
  obtain ⟨y30, y31⟩ := tcells3 q3
  clear q0 q1 q2 q3
  refine wp_region_below (by kernel_rfl) (by kernel_rfl) ?_
  repeat (go_big_quiet_step (first
    | (go_at_call 22; exact quietB (HEN.out _ (below_step HB.out (BelowOf.h _))))
    | (go_at_call 23; exact quietB (HRE.out _ (below_step HB.out (BelowOf.h _))))
    | (go_at_call 9; exact quietB (HLG.out _ (below_step HB.out (BelowOf.h _))))
    | (go_at_call 11; exact quietB (HRL.out _ (below_step HB.out (BelowOf.h _))))
    | (go_at_call 24; exact quietB (HPF.out _ (below_step HB.out (BelowOf.h _))))
    | (go_at_call 25; exact quietB (HRF.out _ (below_step HB.out (BelowOf.h _))))
    | (go_at_call 26; exact quietB (HPS.out _ (below_step HB.out (BelowOf.h _))))
    | (go_at_call 27; exact quietB (HRS.out _ (below_step HB.out (BelowOf.h _))))
    | (go_at_call 28; exact quietB (HSM.out _ (below_step HB.out (BelowOf.h _))))
    | (go_at_call 14; exact quietB (HRM.out _ (below_step HB.out (BelowOf.h _))))
    | (go_at_call 7; exact quietB (HLA.out _ (below_step HB.out (BelowOf.h _))))
    | (go_at_call 29; exact quietB (HRA.out _ (below_step HB.out (BelowOf.h _))))
    | (go_at_call 10; exact quietB (HAW.out _ (below_step HB.out (BelowOf.h _))))))
  refine wpQuiet_nil ?_
  rintro _ ⟨nq, rfl⟩
  have HB3 := Aside0.mk (below_step HB.out nq.h)
  go_wp2
  go_ret
  exact ⟨by simp, HB3.out⟩
theorem reeflaw21_PglogTells.calls (x : S34) (p n les le lv : Int) (A5 A6 A7 : Option Addr) (c5 c6 c7 : Nat) (l : List S34) (d : List S73) (o : List S83) (p' n' les' le' lv' : Int) (A5' A6' A7' : Option Addr) (c5' c6' c7' : Nat) (l' : List S34) (d' : List S73) (o' : List S83) (a b : Int) (w : World) (h5 : Kd.C k34 w A5 l.length l) (g5 : l.length ≤ c5) (h6 : Kd.C k73 w A6 d.length d) (g6 : d.length ≤ c6) (h7 : Kd.C k83 w A7 o.length o) (g7 : o.length ≤ c7) (h5' : Kd.C k34 w A5' l'.length l') (g5' : l'.length ≤ c5') (h6' : Kd.C k73 w A6' d'.length d') (g6' : d'.length ≤ c6') (h7' : Kd.C k83 w A7' o'.length o') (g7' : o'.length ≤ c7') (hx : fitE x) (hl : ∀ z ∈ l, fitE z) (ho : ∀ z ∈ o, z.f0.size ≤ 140737488351232) (m1 : l.length ≤ 1099511627776 * 128) (m2 : d.length ≤ 1099511627776 * 128) (m3 : o.length ≤ 1099511627776 * 128) :
    Calls Try.prog 6 #[.agg #[.int .i64 x.f0.f0, .int .i64 x.f0.f1, .int .i64 x.f1.f0, .int .i64 x.f1.f1, .int .i64 x.f1.f2, .int .i64 x.f1.f3.f0, .string x.f1.f3.f1, .int .i64 x.f1.f3.f2, .int .i64 x.f1.f3.f3, .string x.f1.f3.f4, .int .i64 x.f2.f0, .int .i64 x.f2.f1, .int .i64 x.f2.f2, .string x.f2.f3], .agg #[.int .i64 p, .int .i64 n, .int .i64 les, .int .i64 le, .int .i64 lv, .slice A5 l.length c5, .slice A6 d.length c6, .slice A7 o.length c7], .agg #[.int .i64 p', .int .i64 n', .int .i64 les', .int .i64 le', .int .i64 lv', .slice A5' l'.length c5', .slice A6' d'.length c6', .slice A7' o'.length c7'], .agg #[.int .i64 a, .int .i64 b]] w fun e w' => e = .returned (.bool true) ∧ Below w.heap.size w w' := by
  obtain ⟨K, hK⟩ : ∃ K : Nat, 140737488355328 * 1024 < K := ⟨140737488355328 * 1024 + 1, by omega⟩
  have hK1 : 140737488351232 < K := by omega
  have hK2 : 140737488351260 < K := by omega
  obtain ⟨rs, hrs⟩ := shards_some K p n les le lv p' n' les' le' lv' l l' d d' o o' m1 m2 m3 (by omega) (by omega) (by omega)
  obtain ⟨rm, hrm⟩ := same_some_N K l l' m1 (by omega)
  obtain ⟨rt, hrt⟩ := later_some le lv a b
  have ho' : ∀ z ∈ o, z.f0.size ≤ 4611686018427387904 := fun z hz => by have := ho z hz; omega
  refine tells_walk x p n les le lv A5 A6 A7 c5 c6 c7 l d o p' n' les' le' lv' A5' A6' A7' c5' c6' c7' l' d' o' a b (entB x) (logB l a b) _ rs rm rt w
    (fun W0 hb => pglog_Entry.calls 40 x.f0.f0 x.f0.f1 x.f1.f0 x.f1.f1 x.f1.f2 x.f1.f3.f0 x.f1.f3.f1 x.f1.f3.f2 x.f1.f3.f3 x.f1.f3.f4 x.f2.f0 x.f2.f1 x.f2.f2 x.f2.f3 (entB x) W0 (entF_eq x))
    (fun W0 hb => reefref21_Entry.calls K x.f0.f0 x.f0.f1 x.f1.f0 x.f1.f1 x.f1.f2 x.f1.f3.f0 x.f1.f3.f1 x.f1.f3.f2 x.f1.f3.f3 x.f1.f3.f4 x.f2.f0 x.f2.f1 x.f2.f2 x.f2.f3 (entB x) W0 (rent_eq K hK1 x hx))
    (fun W0 hb => pglog_Log.calls A5 c5 l a b _ W0 (Kd.C_below h5 hb) g5 (olog_eq l a b))
    (fun W0 hb => reefref21_Log.calls K A5 c5 l a b _ W0 (Kd.C_below h5 hb) g5 (rlog_eq K hK2 l a b hl))
    (fun W0 hb => fit_walk p n les le lv A5 A6 A7 l.length c5 d.length c6 o.length c7 _ (d.any bigC) (logB l le lv) (dupB d) (objB o) W0
      (fun W1 h1 => (pglog_within.calls les 0 1073741824 _ W1 (within_eq les)).mono fun _ _ h => ⟨h.1, h.2.below⟩)
      (fun W1 h1 => slices_ContainsFunc_D.calls 44 #[] bigC A6 c6 d W1 (Kd.C_below h6 (below_step hb h1)) g6 (Go.Proofs.enters_of Try.func44 (by kernel_rfl) rfl) (fun z hz W2 h2 => fit_one z W2))
      (fun W1 h1 => pglog_Log.calls A5 c5 l le lv _ W1 (Kd.C_below h5 (below_step hb h1)) g5 (olog_eq l le lv))
      (fun W1 h1 => dup_Fit.calls A6 c6 d W1 (Kd.C_below h6 (below_step hb h1)) g6)
      (fun W1 h1 => object_Fit.calls A7 c7 o W1 (Kd.C_below h7 (below_step hb h1)) g7))
    (fun W0 hb => ?_)
    (fun W0 hb => pglog_Shards.calls K p n les le lv A5 c5 l A6 c6 d A7 c7 o p' n' les' le' lv' A5' c5' l' A6' c6' d' A7' c7' o' rs W0 (Kd.C_below h5 hb) g5 (Kd.C_below h6 hb) g6 (Kd.C_below h7 hb) g7 (Kd.C_below h5' hb) g5' (Kd.C_below h6' hb) g6' (Kd.C_below h7' hb) g7' ((shards_f K p n les le lv p' n' les' le' lv' l l' d d' o o').trans hrs))
    (fun W0 hb => reefref21_Shards.calls K p n les le lv A5 c5 l A6 c6 d A7 c7 o p' n' les' le' lv' A5' c5' l' A6' c6' d' A7' c7' o' rs W0 (Kd.C_below h5 hb) g5 (Kd.C_below h6 hb) g6 (Kd.C_below h7 hb) g7 (Kd.C_below h5' hb) g5' (Kd.C_below h6' hb) g6' (Kd.C_below h7' hb) g7' hrs)
    (fun W0 hb => (pglog_Same.calls K A5 c5 l A5' c5' l' rm W0 (Kd.C_below h5 hb) g5 (Kd.C_below h5' hb) g5' ((psame_f K l l').trans hrm)).mono fun _ _ h => ⟨h.1, h.2.below⟩)
    (fun W0 hb => (reefref21_Same.calls K A5 c5 l A5' c5' l' rm W0 (Kd.C_below h5 hb) g5 (Kd.C_below h5' hb) g5' hrm).mono fun _ _ h => ⟨h.1, h.2.below⟩)
    (fun W0 hb => pglog_Later.calls le lv a b rt W0 hrt)
    (fun W0 hb => reefref21_Later.calls le lv a b rt W0 (by rw [later_eq]; exact hrt))
    (fun W0 hb => reeflaw21_awake.calls true W0 rfl)
  rw [fit_same]
  exact rfit_walk p n les le lv A5 A6 A7 l.length c5 c6 o.length c7 d (pgB p n) (logB l le lv) (dupB d) (objB o) W0 (Kd.C_below h6 hb) g6
    (fun W1 h1 => reefref21_Pg.calls' p n W1)
    (fun W1 h1 => reefref21_Log.calls K A5 c5 l le lv _ W1 (Kd.C_below h5 (below_step hb h1)) g5 (rlog_eq K hK2 l le lv hl))
    (fun W1 h1 => reefref20_Fit.calls A6 c6 d W1 (Kd.C_below h6 (below_step hb h1)) g6)
    (fun W1 h1 => reefref19_Fit.calls A7 c7 o ho' W1 (Kd.C_below h7 (below_step hb h1)) g7)
end Go.Proofs.Ytbdciklcckjknaa.P
