/-
  No cell of these rows narrows 'for every input' (looked for: loops, veiled, ifaces, maps, wideKeys, modest, calm, conditions, laid).
  DERIVED. THE GIVEN ROWS OF THIS SEAT. 4 by the template 'for every input the law returns true; each argument reads behind the call as it read before'; 0 by the template 'total and deterministic' (their statements: YtkilmclncpmjnaaTotals.lean).
  GIVEN WITH THE SEED: the statements are not yours to turn. If you find one false, say at which input.
  Laid BY PROGRAM, IN A SANDBOX (cutbox-rows.mjs): the forced cells as the released guide's own fill.sh prints them over the translation db8f772831e69c67… (all of the seat's roots in one cut). By AI agents, Wed Nov 11 2026. No macro, syntax, notation, axiom, sorry.
-/
import Derived.Test.YtkilmclncpmjnaaChecked
import GoSem.Claim
import GoSem.ClaimJoined
import GoSem.ClaimMapViews
import Derived.JoinedTies
import Derived.KernelRfl
namespace Go.Proofs.Ytkilmclncpmjnaa
/- THE CELL 'sum', in the pinned program and in every row, IS THE sha256 OF THE DUMP (.gsa) THAT YtkilmclncpmjnaaProg.lean LOADS. Nothing in Lean hashes anything: it is a label: what it is worth is what the hold of that sum in a sandbox is worth. -/
noncomputable def Try.pinned : Pinned := { name := "ytkilmclncpmjnaa", sum := "db8f772831e69c67b788f7a656f3abab996926cd0895537d834e4d3b7e84bebe", checked := Try.checked }
namespace Rows
def none {H : Type} : Left H := { results := [], args := [] }

/-- 'watershedlaw06.QuorumMeet': WHATEVER THE INPUT: true; the input reads as it did. -/
def quorumMeetSpec : ChangeSpec := { name := "quorumMeet", fn := fun _ => fun
  | [d1, d2, d3] => { results := [.lit (.bool true)], args := [d1, d2, d3] }
  | _ => none }
def quorumMeetRow : OpenClaim := { program := "ytkilmclncpmjnaa", sum := "db8f772831e69c67b788f7a656f3abab996926cd0895537d834e4d3b7e84bebe", func := "watershed/watershedlaw06.QuorumMeet", spec := "quorumMeet", unfollowed := true, recurses := true, apart := false }
def QuorumMeetSaid : Prop := quorumMeetRow.holds Try.pinned (OpenSpec.ofChange quorumMeetSpec)

/-- ITS FALSE NEIGHBOUR: 'it returns false'. Refute it at one input. -/
def quorumMeetWrong : ChangeSpec := { name := "quorumMeet", fn := fun _ => fun
  | [d1, d2, d3] => { results := [.lit (.bool false)], args := [d1, d2, d3] }
  | _ => none }
def QuorumMeetWrongFalsely : Prop := quorumMeetRow.holds Try.pinned (OpenSpec.ofChange quorumMeetWrong)

/-- 'watershedlaw06.QuorumSteps': WHATEVER THE INPUT: true; the input reads as it did. -/
def quorumStepsSpec : ChangeSpec := { name := "quorumSteps", fn := fun _ => fun
  | [d1, d2] => { results := [.lit (.bool true)], args := [d1, d2] }
  | _ => none }
def quorumStepsRow : OpenClaim := { program := "ytkilmclncpmjnaa", sum := "db8f772831e69c67b788f7a656f3abab996926cd0895537d834e4d3b7e84bebe", func := "watershed/watershedlaw06.QuorumSteps", spec := "quorumSteps", unfollowed := true, recurses := true, apart := false }
def QuorumStepsSaid : Prop := quorumStepsRow.holds Try.pinned (OpenSpec.ofChange quorumStepsSpec)

/-- ITS FALSE NEIGHBOUR: 'it returns false'. Refute it at one input. -/
def quorumStepsWrong : ChangeSpec := { name := "quorumSteps", fn := fun _ => fun
  | [d1, d2] => { results := [.lit (.bool false)], args := [d1, d2] }
  | _ => none }
def QuorumStepsWrongFalsely : Prop := quorumStepsRow.holds Try.pinned (OpenSpec.ofChange quorumStepsWrong)

/-- 'watershedlaw06.QuorumTells': WHATEVER THE INPUT: true; the input reads as it did. -/
def quorumTellsSpec : ChangeSpec := { name := "quorumTells", fn := fun _ => fun
  | [d1, d2, d3] => { results := [.lit (.bool true)], args := [d1, d2, d3] }
  | _ => none }
def quorumTellsRow : OpenClaim := { program := "ytkilmclncpmjnaa", sum := "db8f772831e69c67b788f7a656f3abab996926cd0895537d834e4d3b7e84bebe", func := "watershed/watershedlaw06.QuorumTells", spec := "quorumTells", unfollowed := true, recurses := true, apart := false }
def QuorumTellsSaid : Prop := quorumTellsRow.holds Try.pinned (OpenSpec.ofChange quorumTellsSpec)

/-- ITS FALSE NEIGHBOUR: 'it returns false'. Refute it at one input. -/
def quorumTellsWrong : ChangeSpec := { name := "quorumTells", fn := fun _ => fun
  | [d1, d2, d3] => { results := [.lit (.bool false)], args := [d1, d2, d3] }
  | _ => none }
def QuorumTellsWrongFalsely : Prop := quorumTellsRow.holds Try.pinned (OpenSpec.ofChange quorumTellsWrong)

/-- 'watershedlaw06.QuorumAll': WHATEVER THE INPUT: true; the input reads as it did. -/
def quorumAllSpec : ChangeSpec := { name := "quorumAll", fn := fun _ => fun
  | [] => { results := [.lit (.bool true)], args := [] }
  | _ => none }
def quorumAllRow : OpenClaim := { program := "ytkilmclncpmjnaa", sum := "db8f772831e69c67b788f7a656f3abab996926cd0895537d834e4d3b7e84bebe", func := "watershed/watershedlaw06.QuorumAll", spec := "quorumAll", unfollowed := true, recurses := true, apart := false }
def QuorumAllSaid : Prop := quorumAllRow.holds Try.pinned (OpenSpec.ofChange quorumAllSpec)

/-- ITS FALSE NEIGHBOUR: 'it returns false'. Refute it at one input. -/
def quorumAllWrong : ChangeSpec := { name := "quorumAll", fn := fun _ => fun
  | [] => { results := [.lit (.bool false)], args := [] }
  | _ => none }
def QuorumAllWrongFalsely : Prop := quorumAllRow.holds Try.pinned (OpenSpec.ofChange quorumAllWrong)

/- THE SECOND FORM. 'bulk': how many values and letters a reading holds, each counted each time it is reached (what is shared counts as often as it is met; a slice's spare places count too). A statement '..UptoSaid' is the law's where the arguments, and the package variables that the reading takes, are together of bulk at most 1048576: NARROWER than '..Said'. Prove '..Said' where nothing that the law and all that it calls make is longer than what came in: it says more and counts as full. Else prove '..UptoSaid'. A law counts once. -/
mutual
def uptoBulk {H : Type} : DataW H → Nat
  | .lit (.string bytes) => bytes.length + 1
  | .lit _ => 1
  | .nil => 1
  | .ptr d => uptoBulk d + 1
  | .slice elems spare => uptoBulkAll elems + uptoBulkAll spare + 1
  | .agg parts => uptoBulkAll parts + 1
  | .iface _ d => uptoBulk d + 1
  | .map entries => uptoBulkEntries entries + 1
  | .held _ => 1
def uptoBulkAll {H : Type} : List (DataW H) → Nat
  | [] => 0
  | d :: r => uptoBulk d + uptoBulkAll r
def uptoBulkEntries {H : Type} : List (Lit × DataW H) → Nat
  | [] => 0
  | x :: r => uptoBulkEntry x + uptoBulkEntries r
def uptoBulkEntry {H : Type} : Lit × DataW H → Nat
  | (.string bytes, d) => bytes.length + uptoBulk d + 1
  | (_, d) => uptoBulk d + 1
 end
def uptoSmall : (H : Type) → List (DataW H) → Bool := fun _ ds => decide (uptoBulkAll ds ≤ 1048576)
def OpenSpec.upto (s : _root_.Go.ChangeSpec) : _root_.Go.OpenSpec := { _root_.Go.OpenSpec.ofChange s with cond := some uptoSmall }

/-- 'watershedlaw06.QuorumMeet', WHERE WHAT IT READS IS OF BULK AT MOST 1048576: true; the input reads as it did. -/
def quorumMeetUptoRow : OpenClaim := { program := "ytkilmclncpmjnaa", sum := "db8f772831e69c67b788f7a656f3abab996926cd0895537d834e4d3b7e84bebe", func := "watershed/watershedlaw06.QuorumMeet", spec := "quorumMeet", unfollowed := true, recurses := true, apart := false, narrowed := true }
def QuorumMeetUptoSaid : Prop := quorumMeetUptoRow.holds Try.pinned (OpenSpec.upto quorumMeetSpec)

/-- 'watershedlaw06.QuorumSteps', WHERE WHAT IT READS IS OF BULK AT MOST 1048576: true; the input reads as it did. -/
def quorumStepsUptoRow : OpenClaim := { program := "ytkilmclncpmjnaa", sum := "db8f772831e69c67b788f7a656f3abab996926cd0895537d834e4d3b7e84bebe", func := "watershed/watershedlaw06.QuorumSteps", spec := "quorumSteps", unfollowed := true, recurses := true, apart := false, narrowed := true }
def QuorumStepsUptoSaid : Prop := quorumStepsUptoRow.holds Try.pinned (OpenSpec.upto quorumStepsSpec)

/-- 'watershedlaw06.QuorumTells', WHERE WHAT IT READS IS OF BULK AT MOST 1048576: true; the input reads as it did. -/
def quorumTellsUptoRow : OpenClaim := { program := "ytkilmclncpmjnaa", sum := "db8f772831e69c67b788f7a656f3abab996926cd0895537d834e4d3b7e84bebe", func := "watershed/watershedlaw06.QuorumTells", spec := "quorumTells", unfollowed := true, recurses := true, apart := false, narrowed := true }
def QuorumTellsUptoSaid : Prop := quorumTellsUptoRow.holds Try.pinned (OpenSpec.upto quorumTellsSpec)

/-- 'watershedlaw06.QuorumAll', WHERE WHAT IT READS IS OF BULK AT MOST 1048576: true; the input reads as it did. -/
def quorumAllUptoRow : OpenClaim := { program := "ytkilmclncpmjnaa", sum := "db8f772831e69c67b788f7a656f3abab996926cd0895537d834e4d3b7e84bebe", func := "watershed/watershedlaw06.QuorumAll", spec := "quorumAll", unfollowed := true, recurses := true, apart := false, narrowed := true }
def QuorumAllUptoSaid : Prop := quorumAllUptoRow.holds Try.pinned (OpenSpec.upto quorumAllSpec)

end Rows
end Go.Proofs.Ytkilmclncpmjnaa
