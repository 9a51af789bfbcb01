/- Texts of this claim, merged by pack.py: S12 HBK -/
import Derived.Test.YtobbocolmlljdaaSA08
import Derived.Test.YtobbocolmlljdaaRows
import Derived.Test.YtobbocolmlljdaaSA01
import Derived.Deep.SlicePairs
namespace Go.Proofs.Ytobbocolmlljdaa.P
open Go.RowKit Go.Proofs.YtobbocolmlljdaaW.PrintWords Go.Proofs.YtobbocolmlljdaaW.PrintLast Go.Proofs.YtobbocolmlljdaaW.PrintMore Go.Proofs.YtobbocolmlljdaaW.HB
set_option linter.unusedVariables false
theorem reeflaw33_SetupMixes.calls (A0 : Option Addr) (c0 : Nat) (l0 : List S41) (A1 : Option Addr) (c1 : Nat) (l1 : List S41) (seed : Int) (W : World) (hC0 : Kd.C k41 W A0 l0.length l0) (hl0 : l0.length ≤ c0) (hC1 : Kd.C k41 W A1 l1.length l1) (hl1 : l1.length ≤ c1) (h : l0.length + l1.length ≤ 4000000) :
    Calls Try.prog 3 #[.slice A0 l0.length c0, .slice A1 l1.length c1, .int .u64 seed] W fun e W' => e = .returned (.bool true) ∧ Below W.heap.size W W' := by
  obtain ⟨ra, ea, ha, sa⟩ := raw_of hC0
  obtain ⟨rb, eb, hb, sb⟩ := raw_of hC1
  have := mixes.calls A0 c0 ra A1 c1 rb seed W ⟨by rw [ea]; exact ha, by omega⟩ ⟨by rw [eb]; exact hb, by omega⟩ sa sb (by omega)
  rwa [ea, eb] at this
end Go.Proofs.Ytobbocolmlljdaa.P
namespace Go.Proofs.Ytobbocolmlljdaa.P
theorem bulk_pos {H : Type} (x : DataW H) : 1 ≤ Rows.uptoBulk x := by
  cases x with
  | lit l => cases l <;> simp [Rows.uptoBulk]
  | _ => simp [Rows.uptoBulk]
theorem len_bulk {H : Type} (l : List (DataW H)) : l.length ≤ Rows.uptoBulkAll l := by
  induction l with
  | nil => simp [Rows.uptoBulkAll]
  | cons x r ih =>
    have := bulk_pos x
    simp only [Rows.uptoBulkAll, List.length_cons]; omega
end Go.Proofs.Ytobbocolmlljdaa.P
