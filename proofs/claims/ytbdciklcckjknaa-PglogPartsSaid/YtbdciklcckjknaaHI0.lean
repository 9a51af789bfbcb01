import Derived.RangeFuncNested
import Derived.RangeFuncBound
import Derived.RangeFuncCalls
import Derived.RangeFuncLeaves
import Derived.Shelf.Abstract
import Derived.Shelf.RegionOpen
import Derived.OwnWalkIn
import Derived.TacticsInMore
import Derived.LoopNIn
import Derived.LoopIn
import Derived.Test.YtbdciklcckjknaaHB
namespace Go.Proofs.Ytbdciklcckjknaa.P
open Go.RowKit Go.Proofs.YtbdciklcckjknaaW.PrintWords Go.Proofs.YtbdciklcckjknaaW.PrintLast Go.Proofs.YtbdciklcckjknaaW.PrintMore Go.Proofs.YtbdciklcckjknaaW.HB
set_option linter.unusedVariables false
attribute [local go_sem] Oper.semAt_some

/-- What a round that goes on keeps: the cells' blocks that were there (but X), and those of the types Ts that have come since. -/
def KeepX (N0 : Nat) (X Ts : Nat → Prop) (W W' : World) : Prop :=
  W.heap.size ≤ W'.heap.size ∧ ∀ k cs T fr, W.heap[k]? = some (.cells cs T fr) → ((k < N0 ∧ ¬ X k) ∨ (N0 ≤ k ∧ Ts T)) → W'.heap[k]? = some (.cells cs T fr)
theorem KeepX.refl (N0 : Nat) (X Ts : Nat → Prop) (W : World) : KeepX N0 X Ts W W := ⟨Nat.le_refl _, fun _ _ _ _ h _ => h⟩
theorem KeepX.trans {N0 : Nat} {X Ts : Nat → Prop} {A B C : World} (h : KeepX N0 X Ts A B) (k : KeepX N0 X Ts B C) : KeepX N0 X Ts A C := ⟨Nat.le_trans h.1 k.1, fun i cs T fr hi hx => k.2 i cs T fr (h.2 i cs T fr hi hx) hx⟩
theorem KeepX.put {N0 : Nat} {X Ts : Nat → Prop} (W : World) (l : Nat) (o o' : Obj) (h : W.heap[l]? = some o) (hc : o.isCells = false) : KeepX N0 X Ts W (W.putObj l o') := by
  refine ⟨by simp, fun k cs T fr hk _ => ?_⟩
  have hne : k ≠ l := by
    rintro rfl
    rw [h] at hk
    cases hk
    simp [Obj.isCells] at hc
  exact (World.putObj_heap_other hne).trans hk
theorem KeepX.below {N0 : Nat} {X Ts : Nat → Prop} {W W' : World} (h : Below W.heap.size W W') : KeepX N0 X Ts W W' :=
  ⟨h.size, fun k cs T fr hk _ => (h.block k (Array.getElem?_eq_some_iff.1 hk).1).trans hk⟩
theorem KeepX.grown {N0 : Nat} {X Ts : Nat → Prop} {W W' : World} {row : Option Nat} (h : W.grownBy W' row) (hr : ∀ k cs T fr, row = some k → W.heap[k]? = some (.cells cs T fr) → (k < N0 → X k) ∧ (N0 ≤ k → ¬ Ts T)) : KeepX N0 X Ts W W' :=
  ⟨h.size, fun k cs T fr hk hx => (h.block k (Array.getElem?_eq_some_iff.1 hk).1 (fun e => by
    have := hr k cs T fr e.symm hk
    rcases hx with ⟨h1, h2⟩ | ⟨h1, h2⟩
    · exact h2 (this.1 h1)
    · exact this.2 h1 h2)).trans hk⟩
theorem KeepX.cell {N0 : Nat} {X Ts : Nat → Prop} {W W' : World} (h : KeepX N0 X Ts W W') {a : Addr} {v : Value} (hc : W.cell? a = some v) (hk : a.block < N0) (hX : ¬ X a.block) : W'.cell? a = some v := by
  unfold World.cell? at *
  cases hb : W.heap[a.block]? with
  | none => rw [hb] at hc; cases hc
  | some o =>
    rw [hb] at hc
    cases o with
    | cells cs T fr => rw [h.2 _ cs T fr hb (.inl ⟨hk, hX⟩)]; exact hc
    | _ => cases hc
theorem KeepX.new {N0 : Nat} {X Ts : Nat → Prop} {W W' : World} (h : KeepX N0 X Ts W W') {k : Nat} {cs : Array Value} {T : Nat} {fr : Nat × Nat} (hc : W.heap[k]? = some (.cells cs T fr)) (hk : N0 ≤ k) (hT : Ts T) : W'.heap[k]? = some (.cells cs T fr) := h.2 _ _ _ _ hc (.inr ⟨hk, hT⟩)

theorem abides_alloc {β : Type} {B : Nat} {J : β → World → Prop} (h : AbidesFrom B J) {s : β} {W : World} (o : Obj) (hs : J s W) : J s (W.alloc o) := h s W _ none hs (World.grownBy_alloc W o none) (fun r e => by cases e)
/-- The kit's law for a range over a function whose body may write what lay ahead of the loop; the temporaries behind the assignment are found by the walk. -/
theorem rf_G {F : Fence} {n : Nat} {P : Program} {α : Type} {g : Operand} {ps : Array Tmp} {assign body : Code} {Q : Exit → Act → World → Prop} {a : Act} {w : World}
    (hro : F.round = none) (h1 : 1 ≤ n) {gf : Nat} {lb : Array Value} (hg : a.eval g = .func (.func gf) #[] lb) (hFg : F.fn gf) (eg : ∀ args w, (callFunc gf args).run P w = .ok (.enter gf args) w)
    {encs : α → Array Value} {N0 : Nat} {X Ts : Nat → Prop} {S Sp : List α → Prop} {N : Nat} {w0 : World} (hseq : SeqStopsK F (n - 1) P gf lb encs (KeepX N0 X Ts) S Sp N w0)
    (hb0 : Below w0.heap.size w0 w) (hps : ∀ x, (encs x).size = ps.size)
    (I : List α → World → Prop) (Ix : Code → List α → World → Prop) (hI : OwnFrom w.heap.size I) (hIx : ∀ c, OwnFrom w.heap.size (Ix c)) (h0 : I [] w)
    (h : ∃ a₁ : α → Act, (∀ (l : Nat) (x : α) (W : World) (K : Act → World → Prop), K (a₁ x) W →
      assign.wpIn (F.inRound l) (n - 1 - 1) P (Exit.then K (fun _ _ _ => False)) { tmps := (ps.zip (encs x)).foldl (fun t (p, v) => t.setIfInBounds p v) a.tmps, defers := [] } W) ∧
    (∀ (l : Nat) (pre : List α) (x : α) (W : World), I pre W → pre.length < N → body.wpIn (F.inRound l) (n - 1 - 1) P (ownPostG w.heap.size (KeepX N0 X Ts) I Ix (pre ++ [x]) W) (a₁ x) W) ∧
    (∀ (D : Nat) (xs : List α) (W : World), w.heap.size ≤ D → S xs → I xs W → W.heap[D]? = some (.deferred (some [])) → Q .normal { a with defers := { target := .collected D, args := #[] } :: a.defers } W) ∧
    (∀ (D : Nat) (c : Code) (pre : List α) (W : World), w.heap.size ≤ D → Sp pre → Ix c pre W → W.heap[D]? = some (.deferred (some [])) → c.wpIn F n P Q { a with defers := { target := .collected D, args := #[] } :: a.defers } W)) :
    (Code.rangeFunc g ps assign body).wpIn F n P Q a w := by
  obtain ⟨a₁, hassign, hbody, hdone, hstop⟩ := h
  exact wpIn_rangeFunc_ownG hro h1 hg hFg eg hseq KeepX.trans (fun W l o o' _ h hc _ => KeepX.put W l o o' h hc) hb0 hps I Ix hI hIx h0 a₁ hassign hbody hdone hstop
/-- The ways through a region that all come to one end are one. -/
theorem meetIn {F : Fence} {n : Nat} {P : Program} {c : Code} {Q : Exit → Act → World → Prop} {a : Act} {w : World}
    (h : ∃ A W, c.wpIn F n P (fun e a' w' => e = .normal ∧ a' = A ∧ w' = W) a w ∧ Q .normal A W) : c.wpIn F n P Q a w := by
  obtain ⟨A, W, h1, h2⟩ := h
  refine wpIn_mono h1 ?_
  rintro e a' w' ⟨rfl, rfl, rfl⟩
  exact h2
theorem meet {P : Program} {c : Code} {Q : Exit → Act → World → Prop} {a : Act} {w : World}
    (h : ∃ A W, c.wp P (fun e a' w' => e = .normal ∧ a' = A ∧ w' = W) a w ∧ Q .normal A W) : c.wp P Q a w := by
  obtain ⟨A, W, h1, h2⟩ := h
  refine Code.wp_mono ?_ h1
  rintro e a' w' ⟨rfl, rfl, rfl⟩
  exact h2
theorem C_keepX' {α : Type} {d : Kd α} {N0 : Nat} {X Ts : Nat → Prop} {W W' : World} {A : Option Addr} {n : Nat} {xs : List α} (hK : ∀ W W' x cs, d.K W x cs → d.K W' x cs) (h : Kd.C d W A n xs) (hk : KeepX N0 X Ts W W') (hA : ∀ ad, A = some ad → 0 < n → ad.block < N0 ∧ ¬ X ad.block) : Kd.C d W' A n xs := by
  refine ⟨h.1, h.2.1, fun hn => ?_⟩
  obtain ⟨ad, e, hc⟩ := h.2.2 hn
  refine ⟨ad, e, fun j p hj => ?_⟩
  obtain ⟨c, h1, h2, h3⟩ := hc j p hj
  refine ⟨c, h1, hK _ _ _ _ h2, fun i u hu => hk.cell (h3 i u hu) ?_ ?_⟩
  · have := (hA ad e hn).1; unfold Addr.add; split <;> exact this
  · have := (hA ad e hn).2; unfold Addr.add; split <;> exact this
theorem R_nc {α : Type} {d : Kd α} {e : Nat} {w w1 : World} {base : Nat} {ok : Nat → Prop} {v : Value} {xs : List α} (h : d.R e w base ok v xs) {row : Option Nat} (hg : w.grownBy w1 row) (hr : ∀ r, row = some r → ∃ o : Obj, w.heap[r]? = some o ∧ o.isCells = false) : d.R e w1 base ok v xs := by
  refine Kd.R_mono (Kd.R_step (Kd.R_bound h) (fun k hk hlt => hg.block k hlt (fun e' => ?_))) (fun k hk => hk.1)
  obtain ⟨_, _, _, q, _, cells, hc⟩ := hk
  obtain ⟨o, ho, hoc⟩ := hr k e'.symm
  rw [hc] at ho; cases ho; cases hoc
theorem boxed_nc {w w1 : World} {B t : Nat} {v : Value} (h : Boxed w B t v) {row : Option Nat} (hg : w.grownBy w1 row) (hr : ∀ r, row = some r → ∃ o : Obj, w.heap[r]? = some o ∧ o.isCells = false) : Boxed w1 B t v :=
  h.kept hg (fun e' => by
    obtain ⟨o, ho, hoc⟩ := hr B e'.symm
    rw [show w.heap[B]? = _ from h] at ho; cases ho; cases hoc)

theorem grownBy_setCellK (W : World) (b k : Nat) (v : Value) : W.grownBy (W.setCell ⟨b, k, none⟩ v) (some b) :=
  ⟨rfl, rfl, rfl, (KeepsWalks.setCell W _ v).size, fun j _ hj => Below.heap_setCell _ _ _ j (fun e => hj (by rw [e]))⟩
theorem far_cell2 {w : World} {a b : Addr} {v u : Value} (h : w.cell? b = some u) (hne : a.block ≠ b.block) : (w.setCell a v).cell? b = some u :=
  (World.cell?_setCell_other _ _ _ _ (fun e => hne (by rw [e]))).trans h
theorem R_cells {α : Type} {d : Kd α} {e : Nat} {w : World} {base : Nat} {ok : Nat → Prop} {v : Value} {xs : List α} (h : d.R e w base ok v xs) (k : Nat) (hk : v.ownBlock = some k) : ∃ cells, w.heap[k]? = some (.cells cells e (0, 0)) := by
  obtain ⟨_, inner, ho, _⟩ := h
  exact own_typed ho k hk

theorem boxed_step {W W' : World} {B : Nat} {t : TypeId} {v : Value} (h : Boxed W B t v) (hb : Below W.heap.size W W') : Boxed W' B t v := (hb.block B h.lt).trans h
/-- One box of the call's own, and what lay there. -/
structure BoxSt (w : World) (b1 t : Nat) (v : Value) (W : World) : Prop where
  x : Boxed W b1 t v
  below : Below w.heap.size w W
  ge : w.heap.size ≤ b1
theorem BoxSt.nc {w : World} {b1 t : Nat} {v : Value} {X Y : World} {row : Option Nat} (h : BoxSt w b1 t v X) (hg : X.grownBy Y row) (hr : ∀ r, row = some r → w.heap.size ≤ r ∧ ∃ o : Obj, X.heap[r]? = some o ∧ o.isCells = false) : BoxSt w b1 t v Y := by
  have hr' := fun r e => (hr r e).2
  exact ⟨boxed_nc h.x hg hr', pw_below_grown h.below row h.below.size hg (fun k e => (hr k e).1), h.ge⟩
theorem BoxSt.set {w : World} {b1 t : Nat} {v : Value} {X : World} (h : BoxSt w b1 t v X) (u : Value) : BoxSt w b1 t u (X.setCell ⟨b1, 0, none⟩ u) :=
  ⟨h.x.set _, h.below.setCell (by show w.heap.size ≤ b1; exact h.ge) _, h.ge⟩
theorem BoxSt.far {w : World} {b1 t : Nat} {v : Value} {X Y : World} {row : Option Nat} (h : BoxSt w b1 t v X) (hg : X.grownBy Y row) (hr : ∀ r, row = some r → w.heap.size ≤ r ∧ r ≠ b1) : BoxSt w b1 t v Y :=
  ⟨h.x.kept hg (fun e => (hr _ e.symm).2 rfl), pw_below_grown h.below row h.below.size hg (fun k e => (hr k e).1), h.ge⟩
end Go.Proofs.Ytbdciklcckjknaa.P
