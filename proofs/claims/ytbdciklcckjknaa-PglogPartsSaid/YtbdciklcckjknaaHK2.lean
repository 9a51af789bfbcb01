import Derived.RangeFuncNested
import Derived.WalkMore
import Derived.CallsIn
import Derived.Test.YtbdciklcckjknaaHI0
namespace Go.Proofs.Ytbdciklcckjknaa.P
open Go.RowKit Go.Proofs.YtbdciklcckjknaaW.PrintWords Go.Proofs.YtbdciklcckjknaaW.PrintLast Go.Proofs.YtbdciklcckjknaaW.PrintMore Go.Proofs.YtbdciklcckjknaaW.HB
set_option linter.unusedVariables false

/-! loops over iterators whose variable is boxed in each round, one within another -/
theorem cells_nc {w w1 : World} {k : Nat} {cs : Array Value} {t : TypeId} {fr : Nat × Nat} (h : w.heap[k]? = some (.cells cs t fr)) {row : Option Nat} (hg : w.grownBy w1 row) (hr : ∀ r, row = some r → ∃ o : Obj, w.heap[r]? = some o ∧ o.isCells = false) : w1.heap[k]? = some (.cells cs t fr) :=
  (hg.block k (Array.getElem?_eq_some_iff.1 h).1 (fun e' => by
    obtain ⟨o, ho, hoc⟩ := hr k e'.symm
    rw [h] at ho; cases ho; cases hoc)).trans h
theorem keepX_nc {N0 : Nat} {X Ts : Nat → Prop} {A B C : World} (h : KeepX N0 X Ts A B) {row : Option Nat} (hg : B.grownBy C row) (hr : ∀ r, row = some r → ∃ o : Obj, B.heap[r]? = some o ∧ o.isCells = false) : KeepX N0 X Ts A C :=
  h.trans ⟨hg.size, fun k cs T fr hk _ => cells_nc hk hg hr⟩
theorem rf_H {F : Fence} {n : Nat} {P : Program} {α : Type} {g : Operand} {ps : Array Tmp} {assign body : Code} {Q : Exit → Act → World → Prop} {a : Act} {w : World}
    (hro : F.round = none) (h1 : 1 ≤ n) {gf : Nat} {lb : Array Value} (hg : a.eval g = .func (.func gf) #[] lb) (hFg : F.fn gf) (eg : ∀ args w, (callFunc gf args).run P w = .ok (.enter gf args) w)
    {encs : α → Array Value} {N0 : Nat} {X Ts : Nat → Prop} {S Sp : List α → Prop} {N : Nat} {w0 : World} (hseq : SeqStopsK F (n - 1) P gf lb encs (KeepX N0 X Ts) S Sp N w0)
    (hb0 : Below w0.heap.size w0 w) (hps : ∀ x, (encs x).size = ps.size)
    (I : List α → World → Prop) (Ix : Code → List α → World → Prop) (hI : OwnFrom w.heap.size I) (hIx : ∀ c, OwnFrom w.heap.size (Ix c)) (h0 : I [] w)
    (Bx : World → Nat → α → Prop) (hBx : ∀ x b, OwnFrom w.heap.size (fun (_ : Unit) W => Bx W b x))
    (h : ∃ f : α → Nat → Act, (∀ (l : Nat) (pre : List α) (x : α) (W : World) (K : Act → World → Prop), I pre W → (∀ b W', KeepsFrom w.heap.size W W' → KeepX N0 X Ts W W' → I pre W' → w.heap.size ≤ b → Bx W' b x → K (f x b) W') →
      assign.wpIn (F.inRound l) (n - 1 - 1) P (Exit.then K (fun _ _ _ => False)) { tmps := (ps.zip (encs x)).foldl (fun t (p, v) => t.setIfInBounds p v) a.tmps, defers := [] } W) ∧
    (∀ (l : Nat) (pre : List α) (x : α) (b : Nat) (W : World), w.heap.size ≤ l → (∃ r, W.heap[l]? = some (.loop r)) → I pre W → w.heap.size ≤ b → Bx W b x → pre.length < N → body.wpIn (F.inRound l) (n - 1 - 1) P (ownPostG w.heap.size (KeepX N0 X Ts) I Ix (pre ++ [x]) W) (f x b) W) ∧
    (∀ (D : Nat) (xs : List α) (W : World), w.heap.size ≤ D → S xs → I xs W → W.heap[D]? = some (.deferred (some [])) → Q .normal { a with defers := { target := .collected D, args := #[] } :: a.defers } W) ∧
    (∀ (D : Nat) (c : Code) (pre : List α) (W : World), w.heap.size ≤ D → Sp pre → Ix c pre W → W.heap[D]? = some (.deferred (some [])) → c.wpIn F n P Q { a with defers := { target := .collected D, args := #[] } :: a.defers } W)) :
    (Code.rangeFunc g ps assign body).wpIn F n P Q a w := by
  obtain ⟨f, hassign, hbody, hdone, hstop⟩ := h
  refine wpIn_rangeFunc_ownH hro h1 hg hFg eg hseq KeepX.trans (fun W l o o' _ h hc _ => KeepX.put W l o o' h hc) hb0 hps I Ix hI hIx h0
    (fun x a' W => ∃ b, w.heap.size ≤ b ∧ Bx W b x ∧ a' = f x b) (fun x a' s X Y row hs hg hr => ?_) (fun l pre x W K hi hK => ?_) (fun l pre x a' W hl hr hi hA hlt => ?_) hdone hstop
  · obtain ⟨b, h1, h2, h3⟩ := hs
    exact ⟨b, h1, hBx x b () X Y row h2 hg hr, h3⟩
  · exact hassign l pre x W K hi (fun b W' k1 k2 k3 k4 k5 => hK _ _ k1 k2 k3 ⟨b, k4, k5, rfl⟩)
  · obtain ⟨b, h1, h2, rfl⟩ := hA
    exact hbody l pre x b W hl hr hi h1 h2 hlt
theorem rf_N {F : Fence} {n : Nat} {P : Program} {α : Type} {g : Operand} {ps : Array Tmp} {assign body : Code} {Q : Exit → Act → World → Prop} {a : Act} {w : World} {l₀ : Nat} {r₀ : Loop}
    (hro : F.round = some l₀) (hl₀ : w.heap[l₀]? = some (.loop r₀)) (h1 : 1 ≤ n) {gf : Nat} {lb : Array Value} (hg : a.eval g = .func (.func gf) #[] lb) (hFg : F.fn gf) (eg : ∀ args w, (callFunc gf args).run P w = .ok (.enter gf args) w)
    {encs : α → Array Value} {N0 : Nat} {X Ts : Nat → Prop} {S Sp : List α → Prop} {N : Nat} {w0 : World} (hseq : SeqStopsK F (n - 1) P gf lb encs (KeepX N0 X Ts) S Sp N w0)
    (hb0 : Below w0.heap.size w0 w) (hps : ∀ x, (encs x).size = ps.size)
    (I : List α → World → Prop) (Ix : Code → List α → World → Prop) (hI : OwnFrom w.heap.size I) (hIx : ∀ c, OwnFrom w.heap.size (Ix c)) (h0 : I [] w)
    (Bx : World → Nat → α → Prop) (hBx : ∀ x b, OwnFrom w.heap.size (fun (_ : Unit) W => Bx W b x))
    (h : ∃ f : α → Nat → Act, (∀ (l : Nat) (pre : List α) (x : α) (W : World) (K : Act → World → Prop), I pre W → (∀ b W', KeepsFrom w.heap.size W W' → KeepX N0 X Ts W W' → I pre W' → w.heap.size ≤ b → Bx W' b x → K (f x b) W') →
      assign.wpIn (F.inRound l) (n - 1 - 1) P (Exit.then K (fun _ _ _ => False)) { tmps := (ps.zip (encs x)).foldl (fun t (p, v) => t.setIfInBounds p v) a.tmps, defers := [] } W) ∧
    (∀ (l : Nat) (pre : List α) (x : α) (b : Nat) (W : World), w.heap.size ≤ l → (∃ r, W.heap[l]? = some (.loop r)) → I pre W → w.heap.size ≤ b → Bx W b x → pre.length < N → body.wpIn (F.inRound l) (n - 1 - 1) P (ownPostG w.heap.size (KeepX N0 X Ts) I Ix (pre ++ [x]) W) (f x b) W) ∧
    (∀ (xs : List α) (W : World), S xs → I xs W → Q .normal a W) ∧
    (∀ (c : Code) (pre : List α) (W : World), Sp pre → Ix c pre W → c.wpIn F n P Q a W)) :
    (Code.rangeFunc g ps assign body).wpIn F n P Q a w := by
  obtain ⟨f, hassign, hbody, hdone, hstop⟩ := h
  refine wpIn_rangeFunc_ownN hro hl₀ h1 hg hFg eg hseq KeepX.trans (fun W l o o' _ h hc _ => KeepX.put W l o o' h hc) hb0 hps I Ix hI hIx h0
    (fun x a' W => ∃ b, w.heap.size ≤ b ∧ Bx W b x ∧ a' = f x b) (fun x a' s X Y row hs hg hr => ?_) (fun l pre x W K hi hK => ?_) (fun l pre x a' W hl hr hi hA hlt => ?_) hdone hstop
  · obtain ⟨b, h1, h2, h3⟩ := hs
    exact ⟨b, h1, hBx x b () X Y row h2 hg hr, h3⟩
  · exact hassign l pre x W K hi (fun b W' k1 k2 k3 k4 k5 => hK _ _ k1 k2 k3 ⟨b, k4, k5, rfl⟩)
  · obtain ⟨b, h1, h2, rfl⟩ := hA
    exact hbody l pre x b W hl hr hi h1 h2 hlt
theorem C_block {α : Type} {d : Kd α} (hs : 0 < d.sz) {W : World} {A : Option Addr} {n : Nat} {xs : List α} (h : Kd.C d W A n xs) : ∀ ad, A = some ad → 0 < n → ad.block < W.heap.size := by
  intro ad e hn
  obtain ⟨ad', e', hc⟩ := h.2.2 hn
  obtain rfl : ad = ad' := by rw [e] at e'; exact Option.some.inj e'
  have hl := h.1
  obtain ⟨c, h1, h2, h3⟩ := hc 0 xs[0] (List.getElem?_eq_getElem (by omega))
  have hc0 : 0 < c.length := by omega
  have := World.block_lt_of_cell? _ _ (h3 0 c[0] (List.getElem?_eq_getElem hc0))
  rw [Nat.zero_mul, Nat.zero_add] at this
  simpa [Addr.add] using this
theorem heap_alloc_if (w : World) (o : Obj) (k : Nat) : (w.alloc o).heap[k]? = if k = w.heap.size then some o else w.heap[k]? := by
  show (w.heap.push o)[k]? = _
  rw [Array.getElem?_push]
theorem keepsFrom_below {W W' : World} (B : Nat) (h : Below W.heap.size W W') : KeepsFrom B W W' := ⟨h.size, fun k o _ ho _ => (h.block k (Array.getElem?_eq_some_iff.1 ho).1).trans ho⟩
/-- All ways of a region come to one end. -/
theorem meetM {F : Fence} {n : Nat} {P : Program} {c : Code} {Q : Exit → Act → World → Prop} {a : Act} {w : World}
    (h : ∃ a' w', c.wpIn F n P (fun e a w => match e with | .normal => a = a' ∧ w = w' | _ => False) a w ∧ Q .normal a' w') : c.wpIn F n P Q a w := by
  obtain ⟨a', w', h1, h2⟩ := h
  refine wpIn_mono h1 ?_
  rintro e b v hb
  cases e with
  | normal => obtain ⟨rfl, rfl⟩ := hb; exact h2
  | _ => exact hb.elim
theorem wpIn_scope_wide {n : Nat} {P : Program} {c : Code} {Q : Exit → Act → World → Prop} {a : Act} {w : World} (h : c.wpIn Fence.wide n P (Exit.noGoto Q) a w) : (Code.scope c).wpIn Fence.wide n P Q a w := wpIn_wide.2 (wp_scope_straight (wpIn_wide.1 h))
end Go.Proofs.Ytbdciklcckjknaa.P
