import Derived.Test.YtbdciklcckjknaaP0
import Derived.Test.YtbdciklcckjknaaHO
namespace Go.Proofs.Ytbdciklcckjknaa.P
open Go.RowKit Go.Proofs.YtbdciklcckjknaaW.PrintWords Go.Proofs.YtbdciklcckjknaaW.HO
set_option linter.unusedVariables false
/-! what the arguments of a law read as, type by type -/
def bdT24 (x : S24) : Prop := ((Lit.int .i64 x.f0).wf = true) ∧ ((Lit.int .i64 x.f1).wf = true)
theorem opT24 {H : Type} {enc : TypeId × Value → H} {W : World} : Opn enc Try.prog W 24 k24 bdT24 := by
  have h := Opn.struct (H := H) (enc := enc) (P := Try.prog) (W := W) (t := 24) Try.underlying24 (by kernel_rfl) (OpnF.cons rfl (by kernel_rfl) rfl (Opn.int Try.underlying2) (OpnF.last rfl (by kernel_rfl) (Opn.int Try.underlying2))) (fun x : S24 => (x.f0, x.f1)) (fun p => ⟨p.1, p.2⟩) (fun _ => rfl)
  exact h
def bdT27 (x : S27) : Prop := ((Lit.int .i64 x.f0).wf = true) ∧ (x.f1.size ≤ 140737488351232) ∧ ((Lit.int .i64 x.f2).wf = true) ∧ ((Lit.int .i64 x.f3).wf = true) ∧ (x.f4.size ≤ 140737488351232)
theorem opT27 {H : Type} {enc : TypeId × Value → H} {W : World} : Opn enc Try.prog W 27 k27 bdT27 := by
  have h := Opn.struct (H := H) (enc := enc) (P := Try.prog) (W := W) (t := 27) Try.underlying27 (by kernel_rfl) (OpnF.cons rfl (by kernel_rfl) rfl (Opn.int Try.underlying3) (OpnF.cons rfl (by kernel_rfl) rfl (Opn.string Try.underlying9) (OpnF.cons rfl (by kernel_rfl) rfl (Opn.int Try.underlying2) (OpnF.cons rfl (by kernel_rfl) rfl (Opn.int Try.underlying2) (OpnF.last rfl (by kernel_rfl) (Opn.string Try.underlying9)))))) (fun x : S27 => (x.f0, x.f1, x.f2, x.f3, x.f4)) (fun p => ⟨p.1, p.2.1, p.2.2.1, p.2.2.2.1, p.2.2.2.2⟩) (fun _ => rfl)
  exact h
def bdT29 (x : S29) : Prop := ((Lit.int .i64 x.f0).wf = true) ∧ ((Lit.int .i64 x.f1).wf = true) ∧ ((Lit.int .i64 x.f2).wf = true) ∧ bdT27 x.f3
theorem opT29 {H : Type} {enc : TypeId × Value → H} {W : World} : Opn enc Try.prog W 29 k29 bdT29 := by
  have h := Opn.struct (H := H) (enc := enc) (P := Try.prog) (W := W) (t := 29) Try.underlying29 (by kernel_rfl) (OpnF.cons rfl (by kernel_rfl) rfl (Opn.int Try.underlying3) (OpnF.cons rfl (by kernel_rfl) rfl (Opn.int Try.underlying2) (OpnF.cons rfl (by kernel_rfl) rfl (Opn.int Try.underlying2) (OpnF.last rfl (by kernel_rfl) (opT27))))) (fun x : S29 => (x.f0, x.f1, x.f2, x.f3)) (fun p => ⟨p.1, p.2.1, p.2.2.1, p.2.2.2⟩) (fun _ => rfl)
  exact h
def bdT32 (x : S32) : Prop := ((Lit.int .i64 x.f0).wf = true) ∧ ((Lit.int .i64 x.f1).wf = true) ∧ ((Lit.int .i64 x.f2).wf = true) ∧ (x.f3.size ≤ 140737488351232)
theorem opT32 {H : Type} {enc : TypeId × Value → H} {W : World} : Opn enc Try.prog W 32 k32 bdT32 := by
  have h := Opn.struct (H := H) (enc := enc) (P := Try.prog) (W := W) (t := 32) Try.underlying32 (by kernel_rfl) (OpnF.cons rfl (by kernel_rfl) rfl (Opn.int Try.underlying30) (OpnF.cons rfl (by kernel_rfl) rfl (Opn.int Try.underlying2) (OpnF.cons rfl (by kernel_rfl) rfl (Opn.int Try.underlying2) (OpnF.last rfl (by kernel_rfl) (Opn.string Try.underlying9))))) (fun x : S32 => (x.f0, x.f1, x.f2, x.f3)) (fun p => ⟨p.1, p.2.1, p.2.2.1, p.2.2.2⟩) (fun _ => rfl)
  exact h
def bdT34 (x : S34) : Prop := bdT24 x.f0 ∧ bdT29 x.f1 ∧ bdT32 x.f2
theorem opT34 {H : Type} {enc : TypeId × Value → H} {W : World} : Opn enc Try.prog W 34 k34 bdT34 := by
  have h := Opn.struct (H := H) (enc := enc) (P := Try.prog) (W := W) (t := 34) Try.underlying34 (by kernel_rfl) (OpnF.cons rfl (by kernel_rfl) rfl (opT24) (OpnF.cons rfl (by kernel_rfl) rfl (opT29) (OpnF.last rfl (by kernel_rfl) (opT32)))) (fun x : S34 => (x.f0, x.f1, x.f2)) (fun p => ⟨p.1, p.2.1, p.2.2⟩) (fun _ => rfl)
  exact h
def bdT51 (x : S51) : Prop := ((Lit.int .i64 x.f0).wf = true) ∧ ((Lit.int .i64 x.f1).wf = true)
theorem opT51 {H : Type} {enc : TypeId × Value → H} {W : World} : Opn enc Try.prog W 51 k51 bdT51 := by
  have h := Opn.struct (H := H) (enc := enc) (P := Try.prog) (W := W) (t := 51) Try.underlying51 (by kernel_rfl) (OpnF.cons rfl (by kernel_rfl) rfl (Opn.int Try.underlying3) (OpnF.last rfl (by kernel_rfl) (Opn.int Try.underlying3))) (fun x : S51 => (x.f0, x.f1)) (fun p => ⟨p.1, p.2⟩) (fun _ => rfl)
  exact h
def bdT73 (x : S73) : Prop := ((Lit.int .i64 x.f0).wf = true) ∧ ((Lit.int .i64 x.f1).wf = true) ∧ ((Lit.int .i64 x.f2).wf = true) ∧ bdT32 x.f3
theorem opT73 {H : Type} {enc : TypeId × Value → H} {W : World} : Opn enc Try.prog W 73 k73 bdT73 := by
  have h := Opn.struct (H := H) (enc := enc) (P := Try.prog) (W := W) (t := 73) Try.underlying73 (by kernel_rfl) (OpnF.cons rfl (by kernel_rfl) rfl (Opn.int Try.underlying3) (OpnF.cons rfl (by kernel_rfl) rfl (Opn.int Try.underlying2) (OpnF.cons rfl (by kernel_rfl) rfl (Opn.int Try.underlying2) (OpnF.last rfl (by kernel_rfl) (opT32))))) (fun x : S73 => (x.f0, x.f1, x.f2, x.f3)) (fun p => ⟨p.1, p.2.1, p.2.2.1, p.2.2.2⟩) (fun _ => rfl)
  exact h
def bdT81 (x : S81) : Prop := ((Lit.int .i64 x.f0).wf = true) ∧ ((Lit.int .i64 x.f1).wf = true)
theorem opT81 {H : Type} {enc : TypeId × Value → H} {W : World} : Opn enc Try.prog W 81 k81 bdT81 := by
  have h := Opn.struct (H := H) (enc := enc) (P := Try.prog) (W := W) (t := 81) Try.underlying81 (by kernel_rfl) (OpnF.cons rfl (by kernel_rfl) rfl (Opn.int Try.underlying3) (OpnF.last rfl (by kernel_rfl) (Opn.int Try.underlying2))) (fun x : S81 => (x.f0, x.f1)) (fun p => ⟨p.1, p.2⟩) (fun _ => rfl)
  exact h
def bdT83 (x : S83) : Prop := (x.f0.size ≤ 140737488351232) ∧ (x.f1.size ≤ 140737488351232) ∧ True ∧ bdT81 x.f3
theorem opT83 {H : Type} {enc : TypeId × Value → H} {W : World} : Opn enc Try.prog W 83 k83 bdT83 := by
  have h := Opn.struct (H := H) (enc := enc) (P := Try.prog) (W := W) (t := 83) Try.underlying83 (by kernel_rfl) (OpnF.cons rfl (by kernel_rfl) rfl (Opn.string Try.underlying9) (OpnF.cons rfl (by kernel_rfl) rfl (Opn.string Try.underlying9) (OpnF.cons rfl (by kernel_rfl) rfl (Opn.bool Try.underlying4) (OpnF.last rfl (by kernel_rfl) (opT81))))) (fun x : S83 => (x.f0, x.f1, x.f2, x.f3)) (fun p => ⟨p.1, p.2.1, p.2.2.1, p.2.2.2⟩) (fun _ => rfl)
  exact h
def bdT55 (x : S55) : Prop := bdT51 x.f0 ∧ ((Lit.int .i64 x.f1).wf = true) ∧ bdT24 x.f2 ∧ (x.f3.length * 136 ≤ 140737488351232 ∧ ∀ y ∈ x.f3, bdT34 y) ∧ (x.f4.length * 64 ≤ 140737488351232 ∧ ∀ y ∈ x.f4, bdT73 y) ∧ (x.f5.length * 56 ≤ 140737488351232 ∧ ∀ y ∈ x.f5, bdT83 y)
theorem opT55 {H : Type} {enc : TypeId × Value → H} {W : World} : Opn enc Try.prog W 55 k55 bdT55 := by
  have h := Opn.struct (H := H) (enc := enc) (P := Try.prog) (W := W) (t := 55) Try.underlying55 (by kernel_rfl) (OpnF.cons rfl (by kernel_rfl) rfl (opT51) (OpnF.cons rfl (by kernel_rfl) rfl (Opn.int Try.underlying2) (OpnF.cons rfl (by kernel_rfl) rfl (opT24) (OpnF.cons rfl (by kernel_rfl) rfl (Opn.slice (bytes := 136) Try.underlying22 (by kernel_rfl) (by kernel_rfl) (opT34)) (OpnF.cons rfl (by kernel_rfl) rfl (Opn.slice (bytes := 64) Try.underlying52 (by kernel_rfl) (by kernel_rfl) (opT73)) (OpnF.last rfl (by kernel_rfl) (Opn.slice (bytes := 56) Try.underlying53 (by kernel_rfl) (by kernel_rfl) (opT83)))))))) (fun x : S55 => (x.f0, x.f1, x.f2, x.f3, x.f4, x.f5)) (fun p => ⟨p.1, p.2.1, p.2.2.1, p.2.2.2.1, p.2.2.2.2.1, p.2.2.2.2.2⟩) (fun _ => rfl)
  exact h
end Go.Proofs.Ytbdciklcckjknaa.P
