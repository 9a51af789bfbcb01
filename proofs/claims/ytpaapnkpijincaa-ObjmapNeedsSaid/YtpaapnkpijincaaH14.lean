import Derived.Test.YtpaapnkpijincaaP0
import Derived.Deep.SlicePairs
import Derived.SizedLaws
import Derived.WalkKit
import Derived.ProofKit
import Derived.OpenShut
namespace Go.Proofs.Ytpaapnkpijincaa.P
open Go.RowKit Go.Proofs.YtpaapnkpijincaaW.PrintWords Go.Proofs.YtpaapnkpijincaaW.PrintLast Go.Proofs.YtpaapnkpijincaaW.PrintMore
open Go.ChangeShapes Go.WideShapes Go.ChangeAt
set_option linter.unusedVariables false

set_option maxRecDepth 100000 in
/-- An argument that is a layout, opened. -/
theorem open_Y {H : Type} {enc : TypeId × Value → H} {W : World} {base b0 : Nat} {r : Reach} {spare : Nat → Bool} {held : Bool} {v : Value} {d : DataW H} {ps : List MemPlace}
    (hv : Value.okWide Try.prog W r b0 50 v) (h : DataW.Trod enc Try.prog W base spare held 50 v d ps) :
    ∃ u c o : Int, v = .agg #[.int .i64 u, .int .i64 c, .int .i64 o] := by
  obtain ⟨cs, rfl, hsz⟩ := okWide_struct Try.underlying50 hv
  have ce : Try.prog.cellsOf 50 = 3 := by kernel_rfl
  rw [ce] at hsz
  obtain ⟨v0, v1, v2, rfl⟩ : ∃ v0 v1 v2, cs = #[v0, v1, v2] := by
    obtain ⟨l⟩ := cs
    match l, hsz with
    | [v0, v1, v2], _ => exact ⟨v0, v1, v2, rfl⟩
  obtain ⟨fuel, hf⟩ := h
  obtain ⟨xs, k, hk, hxy, _, hxl, hfd⟩ := DataW.trod_struct Try.underlying50 hf
  match xs, hxl with
  | [y0, y1, y2], _ =>
    have g0 := hfd 0 _ rfl
    have g1 := hfd 1 _ rfl
    have g2 := hfd 2 _ rfl
    have c2 : Try.prog.cellsOf 2 = 1 := by kernel_rfl
    simp [c2, Value.cells] at g0 g1 g2
    obtain ⟨u0, e0, _, _⟩ := DataW.trod_int Try.underlying2 g0
    obtain ⟨u1, e1, _, _⟩ := DataW.trod_int Try.underlying2 g1
    obtain ⟨u2, e2, _, _⟩ := DataW.trod_int Try.underlying2 g2
    simp at e0 e1 e2
    subst e0 e1 e2
    exact ⟨u0, u1, u2, rfl⟩
end Go.Proofs.Ytpaapnkpijincaa.P
