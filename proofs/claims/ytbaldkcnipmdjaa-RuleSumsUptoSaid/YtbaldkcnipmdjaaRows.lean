/-
  No cell of these rows narrows 'for every input' (looked for: loops, veiled, ifaces, maps, wideKeys, modest, calm, conditions, laid).
  DERIVED. THE GIVEN ROWS OF THIS SEAT. 6 by the template 'for every input the law returns true; each argument reads behind the call as it read before'; 0 by the template 'total and deterministic' (their statements: YtbaldkcnipmdjaaTotals.lean).
  GIVEN WITH THE SEED: the statements are not yours to turn. If you find one false, say at which input.
  Laid BY PROGRAM, IN A SANDBOX (cutbox-rows.mjs): the forced cells as the released guide's own fill.sh prints them over the translation c7dbb1e81db03187… (all of the seat's roots in one cut). By AI agents, Wed Nov 11 2026. No macro, syntax, notation, axiom, sorry.
-/
import Derived.Test.YtbaldkcnipmdjaaChecked
import GoSem.Claim
import GoSem.ClaimJoined
import GoSem.ClaimMapViews
import Derived.JoinedTies
import Derived.KernelRfl
namespace Go.Proofs.Ytbaldkcnipmdjaa
/- THE CELL 'sum', in the pinned program and in every row, IS THE sha256 OF THE DUMP (.gsa) THAT YtbaldkcnipmdjaaProg.lean LOADS. Nothing in Lean hashes anything: it is a label: what it is worth is what the hold of that sum in a sandbox is worth. -/
noncomputable def Try.pinned : Pinned := { name := "ytbaldkcnipmdjaa", sum := "c7dbb1e81db0318794feee4abaaaa065b8b7244ebacd81fb06fd43841df421ac", checked := Try.checked }
namespace Rows
def none {H : Type} : Left H := { results := [], args := [] }

/-- 'reeflaw12.RulePlaces': WHATEVER THE INPUT: true; the input reads as it did. -/
def rulePlacesSpec : ChangeSpec := { name := "rulePlaces", fn := fun _ => fun
  | [d1, d2, d3, d4, d5] => { results := [.lit (.bool true)], args := [d1, d2, d3, d4, d5] }
  | _ => none }
def rulePlacesRow : OpenClaim := { program := "ytbaldkcnipmdjaa", sum := "c7dbb1e81db0318794feee4abaaaa065b8b7244ebacd81fb06fd43841df421ac", func := "reef/reeflaw12.RulePlaces", spec := "rulePlaces", unfollowed := true, recurses := true, apart := false }
def RulePlacesSaid : Prop := rulePlacesRow.holds Try.pinned (OpenSpec.ofChange rulePlacesSpec)

/-- ITS FALSE NEIGHBOUR: 'it returns false'. Refute it at one input. -/
def rulePlacesWrong : ChangeSpec := { name := "rulePlaces", fn := fun _ => fun
  | [d1, d2, d3, d4, d5] => { results := [.lit (.bool false)], args := [d1, d2, d3, d4, d5] }
  | _ => none }
def RulePlacesWrongFalsely : Prop := rulePlacesRow.holds Try.pinned (OpenSpec.ofChange rulePlacesWrong)

/-- 'reeflaw12.RuleStays': WHATEVER THE INPUT: true; the input reads as it did. -/
def ruleStaysSpec : ChangeSpec := { name := "ruleStays", fn := fun _ => fun
  | [d1, d2, d3, d4, d5] => { results := [.lit (.bool true)], args := [d1, d2, d3, d4, d5] }
  | _ => none }
def ruleStaysRow : OpenClaim := { program := "ytbaldkcnipmdjaa", sum := "c7dbb1e81db0318794feee4abaaaa065b8b7244ebacd81fb06fd43841df421ac", func := "reef/reeflaw12.RuleStays", spec := "ruleStays", unfollowed := true, recurses := true, apart := false }
def RuleStaysSaid : Prop := ruleStaysRow.holds Try.pinned (OpenSpec.ofChange ruleStaysSpec)

/-- ITS FALSE NEIGHBOUR: 'it returns false'. Refute it at one input. -/
def ruleStaysWrong : ChangeSpec := { name := "ruleStays", fn := fun _ => fun
  | [d1, d2, d3, d4, d5] => { results := [.lit (.bool false)], args := [d1, d2, d3, d4, d5] }
  | _ => none }
def RuleStaysWrongFalsely : Prop := ruleStaysRow.holds Try.pinned (OpenSpec.ofChange ruleStaysWrong)

/-- 'reeflaw12.RuleTells': WHATEVER THE INPUT: true; the input reads as it did. -/
def ruleTellsSpec : ChangeSpec := { name := "ruleTells", fn := fun _ => fun
  | [d1, d2, d3, d4, d5] => { results := [.lit (.bool true)], args := [d1, d2, d3, d4, d5] }
  | _ => none }
def ruleTellsRow : OpenClaim := { program := "ytbaldkcnipmdjaa", sum := "c7dbb1e81db0318794feee4abaaaa065b8b7244ebacd81fb06fd43841df421ac", func := "reef/reeflaw12.RuleTells", spec := "ruleTells", unfollowed := true, recurses := true, apart := false }
def RuleTellsSaid : Prop := ruleTellsRow.holds Try.pinned (OpenSpec.ofChange ruleTellsSpec)

/-- ITS FALSE NEIGHBOUR: 'it returns false'. Refute it at one input. -/
def ruleTellsWrong : ChangeSpec := { name := "ruleTells", fn := fun _ => fun
  | [d1, d2, d3, d4, d5] => { results := [.lit (.bool false)], args := [d1, d2, d3, d4, d5] }
  | _ => none }
def RuleTellsWrongFalsely : Prop := ruleTellsRow.holds Try.pinned (OpenSpec.ofChange ruleTellsWrong)

/-- 'reeflaw12.RuleValid': WHATEVER THE INPUT: true; the input reads as it did. -/
def ruleValidSpec : ChangeSpec := { name := "ruleValid", fn := fun _ => fun
  | [d1, d2, d3, d4, d5] => { results := [.lit (.bool true)], args := [d1, d2, d3, d4, d5] }
  | _ => none }
def ruleValidRow : OpenClaim := { program := "ytbaldkcnipmdjaa", sum := "c7dbb1e81db0318794feee4abaaaa065b8b7244ebacd81fb06fd43841df421ac", func := "reef/reeflaw12.RuleValid", spec := "ruleValid", unfollowed := true, recurses := true, apart := false }
def RuleValidSaid : Prop := ruleValidRow.holds Try.pinned (OpenSpec.ofChange ruleValidSpec)

/-- ITS FALSE NEIGHBOUR: 'it returns false'. Refute it at one input. -/
def ruleValidWrong : ChangeSpec := { name := "ruleValid", fn := fun _ => fun
  | [d1, d2, d3, d4, d5] => { results := [.lit (.bool false)], args := [d1, d2, d3, d4, d5] }
  | _ => none }
def RuleValidWrongFalsely : Prop := ruleValidRow.holds Try.pinned (OpenSpec.ofChange ruleValidWrong)

/-- 'reeflaw12.RuleCounts': WHATEVER THE INPUT: true; the input reads as it did. -/
def ruleCountsSpec : ChangeSpec := { name := "ruleCounts", fn := fun _ => fun
  | [d1, d2, d3, d4, d5, d6, d7] => { results := [.lit (.bool true)], args := [d1, d2, d3, d4, d5, d6, d7] }
  | _ => none }
def ruleCountsRow : OpenClaim := { program := "ytbaldkcnipmdjaa", sum := "c7dbb1e81db0318794feee4abaaaa065b8b7244ebacd81fb06fd43841df421ac", func := "reef/reeflaw12.RuleCounts", spec := "ruleCounts", unfollowed := true, recurses := true, apart := false }
def RuleCountsSaid : Prop := ruleCountsRow.holds Try.pinned (OpenSpec.ofChange ruleCountsSpec)

/-- ITS FALSE NEIGHBOUR: 'it returns false'. Refute it at one input. -/
def ruleCountsWrong : ChangeSpec := { name := "ruleCounts", fn := fun _ => fun
  | [d1, d2, d3, d4, d5, d6, d7] => { results := [.lit (.bool false)], args := [d1, d2, d3, d4, d5, d6, d7] }
  | _ => none }
def RuleCountsWrongFalsely : Prop := ruleCountsRow.holds Try.pinned (OpenSpec.ofChange ruleCountsWrong)

/-- 'reeflaw12.RuleSums': WHATEVER THE INPUT: true; the input reads as it did. -/
def ruleSumsSpec : ChangeSpec := { name := "ruleSums", fn := fun _ => fun
  | [d1, d2, d3, d4, d5, d6] => { results := [.lit (.bool true)], args := [d1, d2, d3, d4, d5, d6] }
  | _ => none }
def ruleSumsRow : OpenClaim := { program := "ytbaldkcnipmdjaa", sum := "c7dbb1e81db0318794feee4abaaaa065b8b7244ebacd81fb06fd43841df421ac", func := "reef/reeflaw12.RuleSums", spec := "ruleSums", unfollowed := true, recurses := true, apart := false }
def RuleSumsSaid : Prop := ruleSumsRow.holds Try.pinned (OpenSpec.ofChange ruleSumsSpec)

/-- ITS FALSE NEIGHBOUR: 'it returns false'. Refute it at one input. -/
def ruleSumsWrong : ChangeSpec := { name := "ruleSums", fn := fun _ => fun
  | [d1, d2, d3, d4, d5, d6] => { results := [.lit (.bool false)], args := [d1, d2, d3, d4, d5, d6] }
  | _ => none }
def RuleSumsWrongFalsely : Prop := ruleSumsRow.holds Try.pinned (OpenSpec.ofChange ruleSumsWrong)

/- THE SECOND FORM. 'bulk': how many values and letters a reading holds, each counted each time it is reached (what is shared counts as often as it is met; a slice's spare places count too). A statement '..UptoSaid' is the law's where the arguments, and the package variables that the reading takes, are together of bulk at most 1048576: NARROWER than '..Said'. Prove '..Said' where nothing that the law and all that it calls make is longer than what came in: it says more and counts as full. Else prove '..UptoSaid'. A law counts once. -/
mutual
def uptoBulk {H : Type} : DataW H → Nat
  | .lit (.string bytes) => bytes.length + 1
  | .lit _ => 1
  | .nil => 1
  | .ptr d => uptoBulk d + 1
  | .slice elems spare => uptoBulkAll elems + uptoBulkAll spare + 1
  | .agg parts => uptoBulkAll parts + 1
  | .iface _ d => uptoBulk d + 1
  | .map entries => uptoBulkEntries entries + 1
  | .held _ => 1
def uptoBulkAll {H : Type} : List (DataW H) → Nat
  | [] => 0
  | d :: r => uptoBulk d + uptoBulkAll r
def uptoBulkEntries {H : Type} : List (Lit × DataW H) → Nat
  | [] => 0
  | x :: r => uptoBulkEntry x + uptoBulkEntries r
def uptoBulkEntry {H : Type} : Lit × DataW H → Nat
  | (.string bytes, d) => bytes.length + uptoBulk d + 1
  | (_, d) => uptoBulk d + 1
 end
def uptoSmall : (H : Type) → List (DataW H) → Bool := fun _ ds => decide (uptoBulkAll ds ≤ 1048576)
def OpenSpec.upto (s : _root_.Go.ChangeSpec) : _root_.Go.OpenSpec := { _root_.Go.OpenSpec.ofChange s with cond := some uptoSmall }

/-- 'reeflaw12.RulePlaces', WHERE WHAT IT READS IS OF BULK AT MOST 1048576: true; the input reads as it did. -/
def rulePlacesUptoRow : OpenClaim := { program := "ytbaldkcnipmdjaa", sum := "c7dbb1e81db0318794feee4abaaaa065b8b7244ebacd81fb06fd43841df421ac", func := "reef/reeflaw12.RulePlaces", spec := "rulePlaces", unfollowed := true, recurses := true, apart := false, narrowed := true }
def RulePlacesUptoSaid : Prop := rulePlacesUptoRow.holds Try.pinned (OpenSpec.upto rulePlacesSpec)

/-- 'reeflaw12.RuleStays', WHERE WHAT IT READS IS OF BULK AT MOST 1048576: true; the input reads as it did. -/
def ruleStaysUptoRow : OpenClaim := { program := "ytbaldkcnipmdjaa", sum := "c7dbb1e81db0318794feee4abaaaa065b8b7244ebacd81fb06fd43841df421ac", func := "reef/reeflaw12.RuleStays", spec := "ruleStays", unfollowed := true, recurses := true, apart := false, narrowed := true }
def RuleStaysUptoSaid : Prop := ruleStaysUptoRow.holds Try.pinned (OpenSpec.upto ruleStaysSpec)

/-- 'reeflaw12.RuleTells', WHERE WHAT IT READS IS OF BULK AT MOST 1048576: true; the input reads as it did. -/
def ruleTellsUptoRow : OpenClaim := { program := "ytbaldkcnipmdjaa", sum := "c7dbb1e81db0318794feee4abaaaa065b8b7244ebacd81fb06fd43841df421ac", func := "reef/reeflaw12.RuleTells", spec := "ruleTells", unfollowed := true, recurses := true, apart := false, narrowed := true }
def RuleTellsUptoSaid : Prop := ruleTellsUptoRow.holds Try.pinned (OpenSpec.upto ruleTellsSpec)

/-- 'reeflaw12.RuleValid', WHERE WHAT IT READS IS OF BULK AT MOST 1048576: true; the input reads as it did. -/
def ruleValidUptoRow : OpenClaim := { program := "ytbaldkcnipmdjaa", sum := "c7dbb1e81db0318794feee4abaaaa065b8b7244ebacd81fb06fd43841df421ac", func := "reef/reeflaw12.RuleValid", spec := "ruleValid", unfollowed := true, recurses := true, apart := false, narrowed := true }
def RuleValidUptoSaid : Prop := ruleValidUptoRow.holds Try.pinned (OpenSpec.upto ruleValidSpec)

/-- 'reeflaw12.RuleCounts', WHERE WHAT IT READS IS OF BULK AT MOST 1048576: true; the input reads as it did. -/
def ruleCountsUptoRow : OpenClaim := { program := "ytbaldkcnipmdjaa", sum := "c7dbb1e81db0318794feee4abaaaa065b8b7244ebacd81fb06fd43841df421ac", func := "reef/reeflaw12.RuleCounts", spec := "ruleCounts", unfollowed := true, recurses := true, apart := false, narrowed := true }
def RuleCountsUptoSaid : Prop := ruleCountsUptoRow.holds Try.pinned (OpenSpec.upto ruleCountsSpec)

/-- 'reeflaw12.RuleSums', WHERE WHAT IT READS IS OF BULK AT MOST 1048576: true; the input reads as it did. -/
def ruleSumsUptoRow : OpenClaim := { program := "ytbaldkcnipmdjaa", sum := "c7dbb1e81db0318794feee4abaaaa065b8b7244ebacd81fb06fd43841df421ac", func := "reef/reeflaw12.RuleSums", spec := "ruleSums", unfollowed := true, recurses := true, apart := false, narrowed := true }
def RuleSumsUptoSaid : Prop := ruleSumsUptoRow.holds Try.pinned (OpenSpec.upto ruleSumsSpec)

end Rows
end Go.Proofs.Ytbaldkcnipmdjaa
