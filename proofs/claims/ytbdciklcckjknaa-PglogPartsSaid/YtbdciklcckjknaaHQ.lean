import Derived.BigQuiet
import Derived.Test.YtbdciklcckjknaaHB
namespace Go.Proofs.Ytbdciklcckjknaa.P
open Go.RowKit Go.Proofs.YtbdciklcckjknaaW.PrintWords Go.Proofs.YtbdciklcckjknaaW.PrintLast Go.Proofs.YtbdciklcckjknaaW.PrintMore Go.Proofs.YtbdciklcckjknaaW.HB
set_option linter.unusedVariables false

/-! a region that draws its order, of reads and of calls that make memory: the class of the worlds beyond w, walked once -/
structure BelowOf (w : World) where
  v : World
  h : Below w.heap.size w v
instance belowOf_nonempty (w : World) : Nonempty (BelowOf w) := ⟨⟨w, Below.refl _ _⟩⟩
theorem BelowOf.cell {w : World} {a : Addr} {x : Value} (h : w.cell? a = some x) : ∀ n : BelowOf w, n.v.cell? a = some x := fun n => pw_cell_below n.h h
theorem BelowOf.C {α : Type} {d : Kd α} {w : World} {A : Option Addr} {n : Nat} {xs : List α} (h : Kd.C d w A n xs) : ∀ m : BelowOf w, Kd.C d m.v A n xs := fun m => Kd.C_below h m.h
theorem quietB {P : Program} {f : FuncId} {args : Array Value} {v : Value} {w : World} {n : BelowOf w} (h : Calls P f args n.v fun e w' => e = .returned v ∧ Below n.v.heap.size n.v w') : Calls P f args n.v fun e w' => e = .returned v ∧ ∃ m : BelowOf w, w' = m.v :=
  h.mono fun e w' ⟨h1, h2⟩ => ⟨h1, ⟨w', below_step n.h h2⟩, rfl⟩
theorem wp_region_below {P : Program} {id : Nat} {Q : Exit → Act → World → Prop} {a : Act} {w : World} {l : List Oper} (hm : P.follows .mixedOrders = true) (hB : Region.lexB .any l.toArray = true)
    (h : wpQuiet P l.toArray (fun w' => ∃ n : BelowOf w, w' = n.v) (fun a' => ∀ w', (∃ n : BelowOf w, w' = n.v) → Q .normal a' w') l a) : (Code.region id l.toArray true).wp P Q a w :=
  wp_region_quiet (C := fun w' => ∃ n : BelowOf w, w' = n.v) hm hB ⟨⟨w.drew, (Below.refl _ w).drew⟩, rfl⟩ (by simpa using h)
theorem wpList_of_quiet {P : Program} {ops : Array Oper} {C : World → Prop} {Q : Act → Prop} {Q' : Exit → Act → World → Prop} (hQ : ∀ a w, C w → Q a → Q' .normal a w) : ∀ (l : List Oper) (a : Act) (w : World), C w → wpQuiet P ops C Q l a → wpList P ops Q' l a w
  | [], a, w, hw, h => hQ a w hw h
  | o :: l, a, w, hw, h => by
    unfold wpQuiet at h
    unfold wpList
    split
    · rename_i hc
      rw [if_pos hc] at h
      exact .inl (Oper.wp_of_quiet hw (fun a' w' hw' hK => wpList_of_quiet hQ l a' w' hw' hK) h)
    · rename_i hc
      rw [if_neg hc] at h
      exact wpList_of_quiet hQ l _ w hw h
/-- The same for a region that is carried out in the order of the text. -/
theorem wp_plain_below {P : Program} {id : Nat} {Q : Exit → Act → World → Prop} {a : Act} {w : World} {l : List Oper}
    (h : wpQuiet P l.toArray (fun w' => ∃ n : BelowOf w, w' = n.v) (fun a' => ∀ w', (∃ n : BelowOf w, w' = n.v) → Q .normal a' w') l a) : (Code.region id l.toArray false).wp P Q a w := by
  refine wp_region ?_
  rw [show List.range l.toArray.size = List.range' 0 l.length from by simp [List.range_eq_range'], wpOps_eq_wpList l 0 (fun j => by simp)]
  exact wpList_of_quiet (Q := fun a' => ∀ w', (∃ n : BelowOf w, w' = n.v) → Q .normal a' w') (fun a' w' hw' hq => hq w' hw') l a w ⟨⟨w, Below.refl _ _⟩, rfl⟩ h
end Go.Proofs.Ytbdciklcckjknaa.P
