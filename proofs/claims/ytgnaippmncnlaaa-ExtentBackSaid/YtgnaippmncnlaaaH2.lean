import Derived.Test.YtgnaippmncnlaaaH1
import Derived.Deep.RegionHeld3
import Derived.Deep.DeepCutAuto
import Derived.Shelf.Abstract
namespace Go.Proofs.Ytgnaippmncnlaaa.P
open Go.RowKit Go.Proofs.YtgnaippmncnlaaaW.PrintWords Go.Proofs.YtgnaippmncnlaaaW.PrintLast Go.Proofs.YtgnaippmncnlaaaW.PrintMore Go.Proofs.YtgnaippmncnlaaaW.HB
set_option linter.unusedVariables false

/-! closures -/
theorem extent_Take_1.calls (a b n : Int) (g : Nat) (w : World) (hc : w.cell? ⟨g, 0, none⟩ = some (.int .i64 n)) :
    Calls Try.prog 25 #[.agg #[.int .i64 a, .int .i64 b], .pointer (some ⟨g, 0, none⟩)] w fun e w' => e = .returned (.bool (decide (n ≤ b))) ∧ Below w.heap.size w w' := by
  have hu := Try.underlying47
  have hc1 := fun o => Lib.cell?_alloc_some (W := w) o hc
  go_enter Try.func25, Try.ntmps25
  go_wp2
  go_ret
  exact ⟨rfl, below_alloc (Below.refl _ _) _⟩
theorem extent_whole_1.calls (a b : Int) (w : World) :
    Calls Try.prog 41 #[.agg #[.int .i64 a, .int .i64 b]] w fun e w' => e = .returned (.bool (b == 0)) ∧ Below w.heap.size w w' := by
  have hu := Try.underlying47
  go_enter Try.func41, Try.ntmps41
  go_wp2
  go_ret
  exact ⟨rfl, below_alloc (Below.refl _ _) _⟩
theorem extent_whole.calls (g n cap : Nat) (base : Nat) (ok : Nat → Prop) (l0 : List S47) (w : World)
    (ho : Kd.R k47 47 w base ok (.slice (some ⟨g, 0, none⟩) n cap) l0) :
    Calls Try.prog 26 #[.slice (some ⟨g, 0, none⟩) n cap] w fun e w' => ∃ m, e = .returned (.slice (some ⟨g, 0, none⟩) m cap) ∧ Kd.R k47 47 w' base ok (.slice (some ⟨g, 0, none⟩) m cap) (l0.filter (fun x => !(x.f1 == 0))) ∧ w.grownBy w' (some g) := by
  have HO := Aside0.mk ho
  clear ho
  go_enter Try.func26, Try.ntmps26
  go_wp2_with (first | (go_at_call 32; go_loud (refine (slices_DeleteFunc_E.calls 41 #[] (fun x => x.f1 == 0) g n cap base ok l0 _ HO.out (Go.Proofs.enters_of Try.func41 (by kernel_rfl) rfl) (fun x _ w1 _ => extent_whole_1.calls x.f0 x.f1 w1)).mono ?_); rintro e w1 ⟨m, rfl, hR, hG⟩; have HR := Aside0.mk hR; have HG := Aside0.mk hG; clear hR hG))
  go_ret
  exact ⟨m, rfl, HR.out, HG.out⟩
end Go.Proofs.Ytgnaippmncnlaaa.P
