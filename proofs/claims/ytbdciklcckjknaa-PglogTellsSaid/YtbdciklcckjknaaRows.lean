/-
  No cell of these rows narrows 'for every input' (looked for: loops, veiled, ifaces, maps, wideKeys, modest, calm, conditions, laid).
  DERIVED. THE GIVEN ROWS OF THIS SEAT. 4 by the template 'for every input the law returns true; each argument reads behind the call as it read before'; 0 by the template 'total and deterministic' (their statements: YtbdciklcckjknaaTotals.lean).
  GIVEN WITH THE SEED: the statements are not yours to turn. If you find one false, say at which input.
  Laid BY PROGRAM, IN A SANDBOX (cutbox-rows.mjs): the forced cells as the released guide's own fill.sh prints them over the translation 51cc39eedfe07b27… (all of the seat's roots in one cut). By AI agents, Wed Nov 11 2026. No macro, syntax, notation, axiom, sorry.
-/
import Derived.Test.YtbdciklcckjknaaChecked
import GoSem.Claim
import GoSem.ClaimJoined
import GoSem.ClaimMapViews
import Derived.JoinedTies
import Derived.KernelRfl
namespace Go.Proofs.Ytbdciklcckjknaa
/- THE CELL 'sum', in the pinned program and in every row, IS THE sha256 OF THE DUMP (.gsa) THAT YtbdciklcckjknaaProg.lean LOADS. Nothing in Lean hashes anything: it is a label: what it is worth is what the hold of that sum in a sandbox is worth. -/
noncomputable def Try.pinned : Pinned := { name := "ytbdciklcckjknaa", sum := "51cc39eedfe07b27f418becceec8ac259a6db63293097ac192e2e3ce4c547ef7", checked := Try.checked }
namespace Rows
def none {H : Type} : Left H := { results := [], args := [] }

/-- 'reeflaw21.PglogRises': WHATEVER THE INPUT: true; the input reads as it did. -/
def pglogRisesSpec : ChangeSpec := { name := "pglogRises", fn := fun _ => fun
  | [d1, d2, d3, d4] => { results := [.lit (.bool true)], args := [d1, d2, d3, d4] }
  | _ => none }
def pglogRisesRow : OpenClaim := { program := "ytbdciklcckjknaa", sum := "51cc39eedfe07b27f418becceec8ac259a6db63293097ac192e2e3ce4c547ef7", func := "reef/reeflaw21.PglogRises", spec := "pglogRises", unfollowed := true, recurses := true, apart := false }
def PglogRisesSaid : Prop := pglogRisesRow.holds Try.pinned (OpenSpec.ofChange pglogRisesSpec)

/-- ITS FALSE NEIGHBOUR: 'it returns false'. Refute it at one input. -/
def pglogRisesWrong : ChangeSpec := { name := "pglogRises", fn := fun _ => fun
  | [d1, d2, d3, d4] => { results := [.lit (.bool false)], args := [d1, d2, d3, d4] }
  | _ => none }
def PglogRisesWrongFalsely : Prop := pglogRisesRow.holds Try.pinned (OpenSpec.ofChange pglogRisesWrong)

/-- 'reeflaw21.PglogDoes': WHATEVER THE INPUT: true; the input reads as it did. -/
def pglogDoesSpec : ChangeSpec := { name := "pglogDoes", fn := fun _ => fun
  | [d1, d2, d3, d4, d5] => { results := [.lit (.bool true)], args := [d1, d2, d3, d4, d5] }
  | _ => none }
def pglogDoesRow : OpenClaim := { program := "ytbdciklcckjknaa", sum := "51cc39eedfe07b27f418becceec8ac259a6db63293097ac192e2e3ce4c547ef7", func := "reef/reeflaw21.PglogDoes", spec := "pglogDoes", unfollowed := true, recurses := true, apart := false }
def PglogDoesSaid : Prop := pglogDoesRow.holds Try.pinned (OpenSpec.ofChange pglogDoesSpec)

/-- ITS FALSE NEIGHBOUR: 'it returns false'. Refute it at one input. -/
def pglogDoesWrong : ChangeSpec := { name := "pglogDoes", fn := fun _ => fun
  | [d1, d2, d3, d4, d5] => { results := [.lit (.bool false)], args := [d1, d2, d3, d4, d5] }
  | _ => none }
def PglogDoesWrongFalsely : Prop := pglogDoesRow.holds Try.pinned (OpenSpec.ofChange pglogDoesWrong)

/-- 'reeflaw21.PglogParts': WHATEVER THE INPUT: true; the input reads as it did. -/
def pglogPartsSpec : ChangeSpec := { name := "pglogParts", fn := fun _ => fun
  | [d1, d2, d3] => { results := [.lit (.bool true)], args := [d1, d2, d3] }
  | _ => none }
def pglogPartsRow : OpenClaim := { program := "ytbdciklcckjknaa", sum := "51cc39eedfe07b27f418becceec8ac259a6db63293097ac192e2e3ce4c547ef7", func := "reef/reeflaw21.PglogParts", spec := "pglogParts", unfollowed := true, recurses := true, apart := false }
def PglogPartsSaid : Prop := pglogPartsRow.holds Try.pinned (OpenSpec.ofChange pglogPartsSpec)

/-- ITS FALSE NEIGHBOUR: 'it returns false'. Refute it at one input. -/
def pglogPartsWrong : ChangeSpec := { name := "pglogParts", fn := fun _ => fun
  | [d1, d2, d3] => { results := [.lit (.bool false)], args := [d1, d2, d3] }
  | _ => none }
def PglogPartsWrongFalsely : Prop := pglogPartsRow.holds Try.pinned (OpenSpec.ofChange pglogPartsWrong)

/-- 'reeflaw21.PglogTells': WHATEVER THE INPUT: true; the input reads as it did. -/
def pglogTellsSpec : ChangeSpec := { name := "pglogTells", fn := fun _ => fun
  | [d1, d2, d3, d4] => { results := [.lit (.bool true)], args := [d1, d2, d3, d4] }
  | _ => none }
def pglogTellsRow : OpenClaim := { program := "ytbdciklcckjknaa", sum := "51cc39eedfe07b27f418becceec8ac259a6db63293097ac192e2e3ce4c547ef7", func := "reef/reeflaw21.PglogTells", spec := "pglogTells", unfollowed := true, recurses := true, apart := false }
def PglogTellsSaid : Prop := pglogTellsRow.holds Try.pinned (OpenSpec.ofChange pglogTellsSpec)

/-- ITS FALSE NEIGHBOUR: 'it returns false'. Refute it at one input. -/
def pglogTellsWrong : ChangeSpec := { name := "pglogTells", fn := fun _ => fun
  | [d1, d2, d3, d4] => { results := [.lit (.bool false)], args := [d1, d2, d3, d4] }
  | _ => none }
def PglogTellsWrongFalsely : Prop := pglogTellsRow.holds Try.pinned (OpenSpec.ofChange pglogTellsWrong)

/- THE SECOND FORM. 'bulk': how many values and letters a reading holds, each counted each time it is reached (what is shared counts as often as it is met; a slice's spare places count too). A statement '..UptoSaid' is the law's where the arguments, and the package variables that the reading takes, are together of bulk at most 1048576: NARROWER than '..Said'. Prove '..Said' where nothing that the law and all that it calls make is longer than what came in: it says more and counts as full. Else prove '..UptoSaid'. A law counts once. -/
mutual
def uptoBulk {H : Type} : DataW H → Nat
  | .lit (.string bytes) => bytes.length + 1
  | .lit _ => 1
  | .nil => 1
  | .ptr d => uptoBulk d + 1
  | .slice elems spare => uptoBulkAll elems + uptoBulkAll spare + 1
  | .agg parts => uptoBulkAll parts + 1
  | .iface _ d => uptoBulk d + 1
  | .map entries => uptoBulkEntries entries + 1
  | .held _ => 1
def uptoBulkAll {H : Type} : List (DataW H) → Nat
  | [] => 0
  | d :: r => uptoBulk d + uptoBulkAll r
def uptoBulkEntries {H : Type} : List (Lit × DataW H) → Nat
  | [] => 0
  | x :: r => uptoBulkEntry x + uptoBulkEntries r
def uptoBulkEntry {H : Type} : Lit × DataW H → Nat
  | (.string bytes, d) => bytes.length + uptoBulk d + 1
  | (_, d) => uptoBulk d + 1
 end
def uptoSmall : (H : Type) → List (DataW H) → Bool := fun _ ds => decide (uptoBulkAll ds ≤ 1048576)
def OpenSpec.upto (s : _root_.Go.ChangeSpec) : _root_.Go.OpenSpec := { _root_.Go.OpenSpec.ofChange s with cond := some uptoSmall }

/-- 'reeflaw21.PglogRises', WHERE WHAT IT READS IS OF BULK AT MOST 1048576: true; the input reads as it did. -/
def pglogRisesUptoRow : OpenClaim := { program := "ytbdciklcckjknaa", sum := "51cc39eedfe07b27f418becceec8ac259a6db63293097ac192e2e3ce4c547ef7", func := "reef/reeflaw21.PglogRises", spec := "pglogRises", unfollowed := true, recurses := true, apart := false, narrowed := true }
def PglogRisesUptoSaid : Prop := pglogRisesUptoRow.holds Try.pinned (OpenSpec.upto pglogRisesSpec)

/-- 'reeflaw21.PglogDoes', WHERE WHAT IT READS IS OF BULK AT MOST 1048576: true; the input reads as it did. -/
def pglogDoesUptoRow : OpenClaim := { program := "ytbdciklcckjknaa", sum := "51cc39eedfe07b27f418becceec8ac259a6db63293097ac192e2e3ce4c547ef7", func := "reef/reeflaw21.PglogDoes", spec := "pglogDoes", unfollowed := true, recurses := true, apart := false, narrowed := true }
def PglogDoesUptoSaid : Prop := pglogDoesUptoRow.holds Try.pinned (OpenSpec.upto pglogDoesSpec)

/-- 'reeflaw21.PglogParts', WHERE WHAT IT READS IS OF BULK AT MOST 1048576: true; the input reads as it did. -/
def pglogPartsUptoRow : OpenClaim := { program := "ytbdciklcckjknaa", sum := "51cc39eedfe07b27f418becceec8ac259a6db63293097ac192e2e3ce4c547ef7", func := "reef/reeflaw21.PglogParts", spec := "pglogParts", unfollowed := true, recurses := true, apart := false, narrowed := true }
def PglogPartsUptoSaid : Prop := pglogPartsUptoRow.holds Try.pinned (OpenSpec.upto pglogPartsSpec)

/-- 'reeflaw21.PglogTells', WHERE WHAT IT READS IS OF BULK AT MOST 1048576: true; the input reads as it did. -/
def pglogTellsUptoRow : OpenClaim := { program := "ytbdciklcckjknaa", sum := "51cc39eedfe07b27f418becceec8ac259a6db63293097ac192e2e3ce4c547ef7", func := "reef/reeflaw21.PglogTells", spec := "pglogTells", unfollowed := true, recurses := true, apart := false, narrowed := true }
def PglogTellsUptoSaid : Prop := pglogTellsUptoRow.holds Try.pinned (OpenSpec.upto pglogTellsSpec)

end Rows
end Go.Proofs.Ytbdciklcckjknaa
