/-
  No cell of these rows narrows 'for every input' (looked for: loops, veiled, ifaces, maps, wideKeys, modest, calm, conditions, laid).
  DERIVED. THE GIVEN ROWS OF THIS SEAT. 6 by the template 'for every input the law returns true; each argument reads behind the call as it read before'; 0 by the template 'total and deterministic' (their statements: YtpaapnkpijincaaTotals.lean).
  GIVEN WITH THE SEED: the statements are not yours to turn. If you find one false, say at which input.
  Laid BY PROGRAM, IN A SANDBOX (cutbox-rows.mjs): the forced cells as the released guide's own fill.sh prints them over the translation db9bed87c0c9326a… (all of the seat's roots in one cut). By AI agents, Wed Nov 11 2026. No macro, syntax, notation, axiom, sorry.
-/
import Derived.Test.YtpaapnkpijincaaChecked
import GoSem.Claim
import GoSem.ClaimJoined
import GoSem.ClaimMapViews
import Derived.JoinedTies
import Derived.KernelRfl
namespace Go.Proofs.Ytpaapnkpijincaa
/- THE CELL 'sum', in the pinned program and in every row, IS THE sha256 OF THE DUMP (.gsa) THAT YtpaapnkpijincaaProg.lean LOADS. Nothing in Lean hashes anything: it is a label: what it is worth is what the hold of that sum in a sandbox is worth. -/
noncomputable def Try.pinned : Pinned := { name := "ytpaapnkpijincaa", sum := "db9bed87c0c9326a1e4ae0710da8ff3e2418dbb9f98dc15b6e5e89dee1478907", checked := Try.checked }
namespace Rows
def none {H : Type} : Left H := { results := [], args := [] }

/-- 'reeflaw29.ObjmapPacks': WHATEVER THE INPUT: true; the input reads as it did. -/
def objmapPacksSpec : ChangeSpec := { name := "objmapPacks", fn := fun _ => fun
  | [d1, d2, d3] => { results := [.lit (.bool true)], args := [d1, d2, d3] }
  | _ => none }
def objmapPacksRow : OpenClaim := { program := "ytpaapnkpijincaa", sum := "db9bed87c0c9326a1e4ae0710da8ff3e2418dbb9f98dc15b6e5e89dee1478907", func := "reef/reeflaw29.ObjmapPacks", spec := "objmapPacks", unfollowed := true, recurses := true, apart := false }
def ObjmapPacksSaid : Prop := objmapPacksRow.holds Try.pinned (OpenSpec.ofChange objmapPacksSpec)

/-- ITS FALSE NEIGHBOUR: 'it returns false'. Refute it at one input. -/
def objmapPacksWrong : ChangeSpec := { name := "objmapPacks", fn := fun _ => fun
  | [d1, d2, d3] => { results := [.lit (.bool false)], args := [d1, d2, d3] }
  | _ => none }
def ObjmapPacksWrongFalsely : Prop := objmapPacksRow.holds Try.pinned (OpenSpec.ofChange objmapPacksWrong)

/-- 'reeflaw29.ObjmapSizes': WHATEVER THE INPUT: true; the input reads as it did. -/
def objmapSizesSpec : ChangeSpec := { name := "objmapSizes", fn := fun _ => fun
  | [d1, d2, d3] => { results := [.lit (.bool true)], args := [d1, d2, d3] }
  | _ => none }
def objmapSizesRow : OpenClaim := { program := "ytpaapnkpijincaa", sum := "db9bed87c0c9326a1e4ae0710da8ff3e2418dbb9f98dc15b6e5e89dee1478907", func := "reef/reeflaw29.ObjmapSizes", spec := "objmapSizes", unfollowed := true, recurses := true, apart := false }
def ObjmapSizesSaid : Prop := objmapSizesRow.holds Try.pinned (OpenSpec.ofChange objmapSizesSpec)

/-- ITS FALSE NEIGHBOUR: 'it returns false'. Refute it at one input. -/
def objmapSizesWrong : ChangeSpec := { name := "objmapSizes", fn := fun _ => fun
  | [d1, d2, d3] => { results := [.lit (.bool false)], args := [d1, d2, d3] }
  | _ => none }
def ObjmapSizesWrongFalsely : Prop := objmapSizesRow.holds Try.pinned (OpenSpec.ofChange objmapSizesWrong)

/-- 'reeflaw29.ObjmapBack': WHATEVER THE INPUT: true; the input reads as it did. -/
def objmapBackSpec : ChangeSpec := { name := "objmapBack", fn := fun _ => fun
  | [d1, d2, d3] => { results := [.lit (.bool true)], args := [d1, d2, d3] }
  | _ => none }
def objmapBackRow : OpenClaim := { program := "ytpaapnkpijincaa", sum := "db9bed87c0c9326a1e4ae0710da8ff3e2418dbb9f98dc15b6e5e89dee1478907", func := "reef/reeflaw29.ObjmapBack", spec := "objmapBack", unfollowed := true, recurses := true, apart := false }
def ObjmapBackSaid : Prop := objmapBackRow.holds Try.pinned (OpenSpec.ofChange objmapBackSpec)

/-- ITS FALSE NEIGHBOUR: 'it returns false'. Refute it at one input. -/
def objmapBackWrong : ChangeSpec := { name := "objmapBack", fn := fun _ => fun
  | [d1, d2, d3] => { results := [.lit (.bool false)], args := [d1, d2, d3] }
  | _ => none }
def ObjmapBackWrongFalsely : Prop := objmapBackRow.holds Try.pinned (OpenSpec.ofChange objmapBackWrong)

/-- 'reeflaw29.ObjmapTells': WHATEVER THE INPUT: true; the input reads as it did. -/
def objmapTellsSpec : ChangeSpec := { name := "objmapTells", fn := fun _ => fun
  | [d1, d2, d3, d4, d5] => { results := [.lit (.bool true)], args := [d1, d2, d3, d4, d5] }
  | _ => none }
def objmapTellsRow : OpenClaim := { program := "ytpaapnkpijincaa", sum := "db9bed87c0c9326a1e4ae0710da8ff3e2418dbb9f98dc15b6e5e89dee1478907", func := "reef/reeflaw29.ObjmapTells", spec := "objmapTells", unfollowed := true, recurses := true, apart := false }
def ObjmapTellsSaid : Prop := objmapTellsRow.holds Try.pinned (OpenSpec.ofChange objmapTellsSpec)

/-- ITS FALSE NEIGHBOUR: 'it returns false'. Refute it at one input. -/
def objmapTellsWrong : ChangeSpec := { name := "objmapTells", fn := fun _ => fun
  | [d1, d2, d3, d4, d5] => { results := [.lit (.bool false)], args := [d1, d2, d3, d4, d5] }
  | _ => none }
def ObjmapTellsWrongFalsely : Prop := objmapTellsRow.holds Try.pinned (OpenSpec.ofChange objmapTellsWrong)

/-- 'reeflaw29.ObjmapErrs': WHATEVER THE INPUT: true; the input reads as it did. -/
def objmapErrsSpec : ChangeSpec := { name := "objmapErrs", fn := fun _ => fun
  | [d1, d2, d3, d4, d5] => { results := [.lit (.bool true)], args := [d1, d2, d3, d4, d5] }
  | _ => none }
def objmapErrsRow : OpenClaim := { program := "ytpaapnkpijincaa", sum := "db9bed87c0c9326a1e4ae0710da8ff3e2418dbb9f98dc15b6e5e89dee1478907", func := "reef/reeflaw29.ObjmapErrs", spec := "objmapErrs", unfollowed := true, recurses := true, apart := false }
def ObjmapErrsSaid : Prop := objmapErrsRow.holds Try.pinned (OpenSpec.ofChange objmapErrsSpec)

/-- ITS FALSE NEIGHBOUR: 'it returns false'. Refute it at one input. -/
def objmapErrsWrong : ChangeSpec := { name := "objmapErrs", fn := fun _ => fun
  | [d1, d2, d3, d4, d5] => { results := [.lit (.bool false)], args := [d1, d2, d3, d4, d5] }
  | _ => none }
def ObjmapErrsWrongFalsely : Prop := objmapErrsRow.holds Try.pinned (OpenSpec.ofChange objmapErrsWrong)

/-- 'reeflaw29.ObjmapNeeds': WHATEVER THE INPUT: true; the input reads as it did. -/
def objmapNeedsSpec : ChangeSpec := { name := "objmapNeeds", fn := fun _ => fun
  | [d1, d2, d3, d4, d5] => { results := [.lit (.bool true)], args := [d1, d2, d3, d4, d5] }
  | _ => none }
def objmapNeedsRow : OpenClaim := { program := "ytpaapnkpijincaa", sum := "db9bed87c0c9326a1e4ae0710da8ff3e2418dbb9f98dc15b6e5e89dee1478907", func := "reef/reeflaw29.ObjmapNeeds", spec := "objmapNeeds", unfollowed := true, recurses := true, apart := false }
def ObjmapNeedsSaid : Prop := objmapNeedsRow.holds Try.pinned (OpenSpec.ofChange objmapNeedsSpec)

/-- ITS FALSE NEIGHBOUR: 'it returns false'. Refute it at one input. -/
def objmapNeedsWrong : ChangeSpec := { name := "objmapNeeds", fn := fun _ => fun
  | [d1, d2, d3, d4, d5] => { results := [.lit (.bool false)], args := [d1, d2, d3, d4, d5] }
  | _ => none }
def ObjmapNeedsWrongFalsely : Prop := objmapNeedsRow.holds Try.pinned (OpenSpec.ofChange objmapNeedsWrong)

/- THE SECOND FORM. 'bulk': how many values and letters a reading holds, each counted each time it is reached (what is shared counts as often as it is met; a slice's spare places count too). A statement '..UptoSaid' is the law's where the arguments, and the package variables that the reading takes, are together of bulk at most 1048576: NARROWER than '..Said'. Prove '..Said' where nothing that the law and all that it calls make is longer than what came in: it says more and counts as full. Else prove '..UptoSaid'. A law counts once. -/
mutual
def uptoBulk {H : Type} : DataW H → Nat
  | .lit (.string bytes) => bytes.length + 1
  | .lit _ => 1
  | .nil => 1
  | .ptr d => uptoBulk d + 1
  | .slice elems spare => uptoBulkAll elems + uptoBulkAll spare + 1
  | .agg parts => uptoBulkAll parts + 1
  | .iface _ d => uptoBulk d + 1
  | .map entries => uptoBulkEntries entries + 1
  | .held _ => 1
def uptoBulkAll {H : Type} : List (DataW H) → Nat
  | [] => 0
  | d :: r => uptoBulk d + uptoBulkAll r
def uptoBulkEntries {H : Type} : List (Lit × DataW H) → Nat
  | [] => 0
  | x :: r => uptoBulkEntry x + uptoBulkEntries r
def uptoBulkEntry {H : Type} : Lit × DataW H → Nat
  | (.string bytes, d) => bytes.length + uptoBulk d + 1
  | (_, d) => uptoBulk d + 1
 end
def uptoSmall : (H : Type) → List (DataW H) → Bool := fun _ ds => decide (uptoBulkAll ds ≤ 1048576)
def OpenSpec.upto (s : _root_.Go.ChangeSpec) : _root_.Go.OpenSpec := { _root_.Go.OpenSpec.ofChange s with cond := some uptoSmall }

/-- 'reeflaw29.ObjmapPacks', WHERE WHAT IT READS IS OF BULK AT MOST 1048576: true; the input reads as it did. -/
def objmapPacksUptoRow : OpenClaim := { program := "ytpaapnkpijincaa", sum := "db9bed87c0c9326a1e4ae0710da8ff3e2418dbb9f98dc15b6e5e89dee1478907", func := "reef/reeflaw29.ObjmapPacks", spec := "objmapPacks", unfollowed := true, recurses := true, apart := false, narrowed := true }
def ObjmapPacksUptoSaid : Prop := objmapPacksUptoRow.holds Try.pinned (OpenSpec.upto objmapPacksSpec)

/-- 'reeflaw29.ObjmapSizes', WHERE WHAT IT READS IS OF BULK AT MOST 1048576: true; the input reads as it did. -/
def objmapSizesUptoRow : OpenClaim := { program := "ytpaapnkpijincaa", sum := "db9bed87c0c9326a1e4ae0710da8ff3e2418dbb9f98dc15b6e5e89dee1478907", func := "reef/reeflaw29.ObjmapSizes", spec := "objmapSizes", unfollowed := true, recurses := true, apart := false, narrowed := true }
def ObjmapSizesUptoSaid : Prop := objmapSizesUptoRow.holds Try.pinned (OpenSpec.upto objmapSizesSpec)

/-- 'reeflaw29.ObjmapBack', WHERE WHAT IT READS IS OF BULK AT MOST 1048576: true; the input reads as it did. -/
def objmapBackUptoRow : OpenClaim := { program := "ytpaapnkpijincaa", sum := "db9bed87c0c9326a1e4ae0710da8ff3e2418dbb9f98dc15b6e5e89dee1478907", func := "reef/reeflaw29.ObjmapBack", spec := "objmapBack", unfollowed := true, recurses := true, apart := false, narrowed := true }
def ObjmapBackUptoSaid : Prop := objmapBackUptoRow.holds Try.pinned (OpenSpec.upto objmapBackSpec)

/-- 'reeflaw29.ObjmapTells', WHERE WHAT IT READS IS OF BULK AT MOST 1048576: true; the input reads as it did. -/
def objmapTellsUptoRow : OpenClaim := { program := "ytpaapnkpijincaa", sum := "db9bed87c0c9326a1e4ae0710da8ff3e2418dbb9f98dc15b6e5e89dee1478907", func := "reef/reeflaw29.ObjmapTells", spec := "objmapTells", unfollowed := true, recurses := true, apart := false, narrowed := true }
def ObjmapTellsUptoSaid : Prop := objmapTellsUptoRow.holds Try.pinned (OpenSpec.upto objmapTellsSpec)

/-- 'reeflaw29.ObjmapErrs', WHERE WHAT IT READS IS OF BULK AT MOST 1048576: true; the input reads as it did. -/
def objmapErrsUptoRow : OpenClaim := { program := "ytpaapnkpijincaa", sum := "db9bed87c0c9326a1e4ae0710da8ff3e2418dbb9f98dc15b6e5e89dee1478907", func := "reef/reeflaw29.ObjmapErrs", spec := "objmapErrs", unfollowed := true, recurses := true, apart := false, narrowed := true }
def ObjmapErrsUptoSaid : Prop := objmapErrsUptoRow.holds Try.pinned (OpenSpec.upto objmapErrsSpec)

/-- 'reeflaw29.ObjmapNeeds', WHERE WHAT IT READS IS OF BULK AT MOST 1048576: true; the input reads as it did. -/
def objmapNeedsUptoRow : OpenClaim := { program := "ytpaapnkpijincaa", sum := "db9bed87c0c9326a1e4ae0710da8ff3e2418dbb9f98dc15b6e5e89dee1478907", func := "reef/reeflaw29.ObjmapNeeds", spec := "objmapNeeds", unfollowed := true, recurses := true, apart := false, narrowed := true }
def ObjmapNeedsUptoSaid : Prop := objmapNeedsUptoRow.holds Try.pinned (OpenSpec.upto objmapNeedsSpec)

end Rows
end Go.Proofs.Ytpaapnkpijincaa
