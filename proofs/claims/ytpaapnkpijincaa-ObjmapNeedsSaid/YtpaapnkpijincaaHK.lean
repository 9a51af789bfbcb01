import Derived.RangeFuncNested
import Derived.Test.YtpaapnkpijincaaHI0
namespace Go.Proofs.Ytpaapnkpijincaa.P
open Go.RowKit Go.Proofs.YtpaapnkpijincaaW.HB
set_option linter.unusedVariables false

/-! a loop over an iterator that keeps cells of its own: the caller's invariant abides every change from its call on -/
/-- J abides every change at or beyond B. -/
def Abides2 {β : Type} (B : Nat) (J : β → World → Prop) : Prop := ∀ s X Y, J s X → Below B X Y → J s Y
/-- What the iterator tells: it hands out one of S, whole; no round stops it. -/
def SeqC {α : Type} (F : Fence) (n : Nat) (P : Program) (g : Nat) (lb : Array Value) (encs : α → Array Value) (Kp : World → World → Prop) (S : List α → Prop) (N : Nat) (w : World) : Prop :=
  ∀ (l : Nat) (J : List α → World → Prop) (W : World), Below w.heap.size w W → Abides2 W.heap.size J →
    (∀ pre x W1, J pre W1 → pre.length < N → YieldAt F (n - 1) P l (encs x) W1 fun e W' => e = .returned (.bool true) ∧ J (pre ++ [x]) W' ∧ Kp W1 W') →
    J [] W → CallsIn F n P g (#[.func (.yield l) #[] #[]] ++ lb) W fun e W' => (∃ v, e = .returned v) ∧ ∃ xs, S xs ∧ J xs W'
/-- How a round ends. -/
def postA {α : Type} (B : Nat) (Kp : World → World → Prop) (I : List α → World → Prop) (xs : List α) (W : World) : Exit → Act → World → Prop
  | .normal, _, W' => KeepsFrom B W W' ∧ Kp W W' ∧ I xs W'
  | _, _, _ => False
theorem rf_A {F : Fence} {n : Nat} {P : Program} {α : Type} {g : Operand} {ps : Array Tmp} {assign body : Code} {Q : Exit → Act → World → Prop} {a : Act} {w : World}
    (hro : F.round = none) (h1 : 1 ≤ n) {gf : Nat} {lb : Array Value} (hg : a.eval g = .func (.func gf) #[] lb) (hFg : F.fn gf) (eg : ∀ args w, (callFunc gf args).run P w = .ok (.enter gf args) w)
    {encs : α → Array Value} {N0 : Nat} {X Ts : Nat → Prop} {S : List α → Prop} {N : Nat} {w0 : World} (hseq : SeqC F (n - 1) P gf lb encs (KeepX N0 X Ts) S N w0)
    (hb0 : Below w0.heap.size w0 w) (hps : ∀ x, (encs x).size = ps.size)
    (I : List α → World → Prop) (hI : Abides2 w.heap.size I) (h0 : I [] w)
    (hround : ∀ (l : Nat) (pre : List α) (x : α) (W : World), w.heap.size ≤ l → (∃ r, W.heap[l]? = some (.loop r)) → I pre W → pre.length < N →
      assign.wpIn (F.inRound l) (n - 1 - 1) P (Exit.then (fun a1 W1 => KeepsFrom w.heap.size W W1 ∧ KeepX N0 X Ts W W1 ∧
        ∀ o' : Obj, body.wpIn (F.inRound l) (n - 1 - 1) P (postA w.heap.size (KeepX N0 X Ts) I (pre ++ [x]) (W1.putObj l o')) a1 (W1.putObj l o')) (fun _ _ _ => False))
        { tmps := (ps.zip (encs x)).foldl (fun t (p, v) => t.setIfInBounds p v) a.tmps, defers := [] } W)
    (hdone : ∀ (D : Nat) (xs : List α) (W : World), w.heap.size ≤ D → S xs → I xs W → W.heap[D]? = some (.deferred (some [])) → Q .normal { a with defers := { target := .collected D, args := #[] } :: a.defers } W) :
    (Code.rangeFunc g ps assign body).wpIn F n P Q a w := by
  refine wpIn_rangeFunc (fun fn hfn => ?_)
  rw [hro]
  have hrun := run_enterLoop_outer (P := P) (w := w) fn a.tmps ps assign body
  obtain ⟨rc, hrc⟩ : ∃ rc : LoopState → Loop, rc = fun st => { state := st, pending := none, fn, tmps := a.tmps, params := ps, assign, body, defers := w.heap.size } := ⟨_, rfl⟩
  have hrc0 : ({ state := .ready, pending := none, fn, tmps := a.tmps, params := ps, assign, body, defers := w.heap.size } : Loop) = rc .ready := by rw [hrc]
  rw [hrc0] at hrun
  have hsz : ((w.alloc (.deferred (some []))).alloc (.loop (rc .ready))).heap.size = w.heap.size + 2 := by simp
  have hL : ((w.alloc (.deferred (some []))).alloc (.loop (rc .ready))).heap[w.heap.size + 1]? = some (.loop (rc .ready)) := by
    have := World.alloc_heap_new (w.alloc (.deferred (some []))) (.loop (rc .ready)); rwa [World.size_alloc] at this
  have hD : ((w.alloc (.deferred (some []))).alloc (.loop (rc .ready))).heap[w.heap.size]? = some (.deferred (some [])) := (Below.heap_alloc _ _ _ (by simp)).trans (World.alloc_heap_new w _)
  have hIW : I [] ((w.alloc (.deferred (some []))).alloc (.loop (rc .ready))) := hI _ _ _ h0 (((Below.refl _ w).alloc (Nat.le_refl _) _).alloc (by simp) _)
  have hBW : Below w0.heap.size w0 ((w.alloc (.deferred (some []))).alloc (.loop (rc .ready))) := hb0.trans ((((Below.refl _ w).alloc (Nat.le_refl _) _).alloc (by simp) _).mono hb0.size)
  generalize (w.alloc (.deferred (some []))).alloc (.loop (rc .ready)) = W1 at hrun hsz hL hD hIW hBW
  refine ⟨_, _, W1, { target := .fn (.func gf) lb, args := #[.func (.yield (w.heap.size + 1)) #[] #[]] }, W1, gf, #[.func (.yield (w.heap.size + 1)) #[] #[]] ++ lb, W1, hrun, ?_, ?_, ?_, fun _ => h1, ?_⟩
  · simp only [resolve, hg]
    simp [go_sem]
  · intro f' hf'; simp [Target.leads] at hf'; subst hf'; exact hFg
  · simp [invoke, go_sem, eg]
  have other : ∀ {A B : World} {k : Nat} {o : Obj}, k < w.heap.size + 2 → Below W1.heap.size A B → A.heap[k]? = some o → B.heap[k]? = some o := fun {A B k o} hk hb hA => (hb.block k (by omega)).trans hA
  have put : ∀ {s : List α} {A : World} (o : Obj), w.heap.size ≤ A.heap.size → I s A → I s (A.putObj (w.heap.size + 1) o) := fun {s A} o hA h => hI _ _ _ h ((Below.refl _ A).grown (grownBy_putObj' A _ o) hA (fun r e => by cases e; omega))
  refine (hseq (w.heap.size + 1) (fun pre W => I pre W ∧ W.heap[w.heap.size + 1]? = some (.loop (rc .ready)) ∧ W.heap[w.heap.size]? = some (.deferred (some []))) W1 hBW
    (fun s A B hs hb => ⟨hI s A B hs.1 (hb.mono (by omega)), other (by omega) hb hs.2.1, other (by omega) hb hs.2.2⟩) ?_ ⟨hIW, hL, hD⟩).mono ?_
  · rintro pre x W ⟨hi, hl, hd⟩ hlen
    have hy := run_yield (P := P) (args := encs x) hl (by rw [hrc]; exact hps x)
    rw [hrc] at hy
    refine ⟨fn, _, assign, body, hy, roundIn_of_wpIn hfn (wpIn_mono (hround _ pre x W (by omega) ⟨_, hl⟩ hi hlen) ?_)⟩
    rintro e a1 W2 h2
    cases e with
    | normal =>
      obtain ⟨k2, x2, hb⟩ := h2
      have hl2 := k2.same _ _ (by omega) hl rfl
      have hd2 := k2.same _ _ (Nat.le_refl _) hd rfl
      refine ⟨_, run_beginRound hl2 (by rw [hrc]), ?_⟩
      have hlt2 : w.heap.size + 1 < W2.heap.size := (Array.getElem?_eq_some_iff.1 hl2).1
      have hl3 : (W2.putObj (w.heap.size + 1) (.loop { rc .ready with state := .busy })).heap[w.heap.size + 1]? = some (.loop { rc .ready with state := .busy }) := World.putObj_heap_same hlt2
      have hd3 : (W2.putObj (w.heap.size + 1) (.loop { rc .ready with state := .busy })).heap[w.heap.size]? = some (.deferred (some [])) := (World.putObj_heap_other (by omega)).trans hd2
      refine wpIn_mono (hb _) ?_
      rintro e a3 W4 h4
      cases e with
      | normal =>
        obtain ⟨k4, x4, hi4⟩ := h4
        have hl4 := k4.same _ _ (by omega) hl3 rfl
        have hd4 := k4.same _ _ (Nat.le_refl _) hd3 rfl
        have hr := run_endRound (P := P) none hl4
        have er : ({ { rc .ready with state := .busy } with state := if (none : Option Code).isNone then .ready else .done, pending := none } : Loop) = rc .ready := by rw [hrc]; rfl
        rw [er] at hr
        refine ⟨_, _, hr, rfl, ⟨put _ (by have := (Array.getElem?_eq_some_iff.1 hl4).1; omega) hi4, World.putObj_heap_same (Array.getElem?_eq_some_iff.1 hl4).1, (World.putObj_heap_other (by omega)).trans hd4⟩, ?_⟩
        exact ((x2.trans (KeepX.put _ _ _ _ hl2 rfl)).trans x4).trans (KeepX.put _ _ _ _ hl4 rfl)
      | _ => exact h4.elim
    | _ => exact h2.elim
  · rintro e W2 ⟨⟨v, rfl⟩, xs, hS, hi, hl, hd⟩
    refine ⟨none, _, by have := run_endLoop (P := P) hl (by rw [hrc]; simp); rw [hrc] at this; exact this, ?_⟩
    exact hdone _ xs _ (Nat.le_refl _) hS (put _ (by have := (Array.getElem?_eq_some_iff.1 hl).1; omega) hi) ((World.putObj_heap_other (by omega)).trans hd)
end Go.Proofs.Ytpaapnkpijincaa.P
