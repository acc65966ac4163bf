/-
  No cell of these rows narrows 'for every input' (looked for: loops, veiled, ifaces, maps, wideKeys, modest, calm, conditions, laid).
  DERIVED. THE GIVEN ROWS OF THIS SEAT. 4 by the template 'for every input the law returns true; each argument reads behind the call as it read before'; 0 by the template 'total and deterministic' (their statements: YtkinpihjjelcpaaTotals.lean).
  GIVEN WITH THE SEED: the statements are not yours to turn. If you find one false, say at which input.
  Laid BY PROGRAM, IN A SANDBOX (cutbox-rows.mjs): the forced cells as the released guide's own fill.sh prints them over the translation fc30f7ff757090c4… (all of the seat's roots in one cut). By AI agents, Wed Nov 11 2026. No macro, syntax, notation, axiom, sorry.
-/
import Derived.Test.YtkinpihjjelcpaaChecked
import GoSem.Claim
import GoSem.ClaimJoined
import GoSem.ClaimMapViews
import Derived.JoinedTies
import Derived.KernelRfl
namespace Go.Proofs.Ytkinpihjjelcpaa
/- THE CELL 'sum', in the pinned program and in every row, IS THE sha256 OF THE DUMP (.gsa) THAT YtkinpihjjelcpaaProg.lean LOADS. Nothing in Lean hashes anything: it is a label: what it is worth is what the hold of that sum in a sandbox is worth. -/
noncomputable def Try.pinned : Pinned := { name := "ytkinpihjjelcpaa", sum := "fc30f7ff757090c4de51f6cb10123ebfff7142e0be6d47e6eba608b7e6706271", checked := Try.checked }
namespace Rows
def none {H : Type} : Left H := { results := [], args := [] }

/-- 'sievelaw05.EntityFinds': WHATEVER THE INPUT: true; the input reads as it did. -/
def entityFindsSpec : ChangeSpec := { name := "entityFinds", fn := fun _ => fun
  | [d] => { results := [.lit (.bool true)], args := [d] }
  | _ => none }
def entityFindsRow : OpenClaim := { program := "ytkinpihjjelcpaa", sum := "fc30f7ff757090c4de51f6cb10123ebfff7142e0be6d47e6eba608b7e6706271", func := "sieve/sievelaw05.EntityFinds", spec := "entityFinds", apart := false }
def EntityFindsSaid : Prop := entityFindsRow.holds Try.pinned (OpenSpec.ofChange entityFindsSpec)

/-- ITS FALSE NEIGHBOUR: 'it returns false'. Refute it at one input. -/
def entityFindsWrong : ChangeSpec := { name := "entityFinds", fn := fun _ => fun
  | [d] => { results := [.lit (.bool false)], args := [d] }
  | _ => none }
def EntityFindsWrongFalsely : Prop := entityFindsRow.holds Try.pinned (OpenSpec.ofChange entityFindsWrong)

/-- 'sievelaw05.EntitySure': WHATEVER THE INPUT: true; the input reads as it did. -/
def entitySureSpec : ChangeSpec := { name := "entitySure", fn := fun _ => fun
  | [d1, d2] => { results := [.lit (.bool true)], args := [d1, d2] }
  | _ => none }
def entitySureRow : OpenClaim := { program := "ytkinpihjjelcpaa", sum := "fc30f7ff757090c4de51f6cb10123ebfff7142e0be6d47e6eba608b7e6706271", func := "sieve/sievelaw05.EntitySure", spec := "entitySure", apart := false }
def EntitySureSaid : Prop := entitySureRow.holds Try.pinned (OpenSpec.ofChange entitySureSpec)

/-- ITS FALSE NEIGHBOUR: 'it returns false'. Refute it at one input. -/
def entitySureWrong : ChangeSpec := { name := "entitySure", fn := fun _ => fun
  | [d1, d2] => { results := [.lit (.bool false)], args := [d1, d2] }
  | _ => none }
def EntitySureWrongFalsely : Prop := entitySureRow.holds Try.pinned (OpenSpec.ofChange entitySureWrong)

/-- 'sievelaw05.EntityBack': WHATEVER THE INPUT: true; the input reads as it did. -/
def entityBackSpec : ChangeSpec := { name := "entityBack", fn := fun _ => fun
  | [d] => { results := [.lit (.bool true)], args := [d] }
  | _ => none }
def entityBackRow : OpenClaim := { program := "ytkinpihjjelcpaa", sum := "fc30f7ff757090c4de51f6cb10123ebfff7142e0be6d47e6eba608b7e6706271", func := "sieve/sievelaw05.EntityBack", spec := "entityBack", apart := false }
def EntityBackSaid : Prop := entityBackRow.holds Try.pinned (OpenSpec.ofChange entityBackSpec)

/-- ITS FALSE NEIGHBOUR: 'it returns false'. Refute it at one input. -/
def entityBackWrong : ChangeSpec := { name := "entityBack", fn := fun _ => fun
  | [d] => { results := [.lit (.bool false)], args := [d] }
  | _ => none }
def EntityBackWrongFalsely : Prop := entityBackRow.holds Try.pinned (OpenSpec.ofChange entityBackWrong)

/-- 'sievelaw05.EntityNames': WHATEVER THE INPUT: true; the input reads as it did. -/
def entityNamesSpec : ChangeSpec := { name := "entityNames", fn := fun _ => fun
  | [] => { results := [.lit (.bool true)], args := [] }
  | _ => none }
def entityNamesRow : OpenClaim := { program := "ytkinpihjjelcpaa", sum := "fc30f7ff757090c4de51f6cb10123ebfff7142e0be6d47e6eba608b7e6706271", func := "sieve/sievelaw05.EntityNames", spec := "entityNames", unfollowed := true, recurses := true, apart := false }
def EntityNamesSaid : Prop := entityNamesRow.holds Try.pinned (OpenSpec.ofChange entityNamesSpec)

/-- ITS FALSE NEIGHBOUR: 'it returns false'. Refute it at one input. -/
def entityNamesWrong : ChangeSpec := { name := "entityNames", fn := fun _ => fun
  | [] => { results := [.lit (.bool false)], args := [] }
  | _ => none }
def EntityNamesWrongFalsely : Prop := entityNamesRow.holds Try.pinned (OpenSpec.ofChange entityNamesWrong)

/- THE SECOND FORM. 'bulk': how many values and letters a reading holds, each counted each time it is reached (what is shared counts as often as it is met; a slice's spare places count too). A statement '..UptoSaid' is the law's where the arguments, and the package variables that the reading takes, are together of bulk at most 1048576: NARROWER than '..Said'. Prove '..Said' where nothing that the law and all that it calls make is longer than what came in: it says more and counts as full. Else prove '..UptoSaid'. A law counts once. -/
mutual
def uptoBulk {H : Type} : DataW H → Nat
  | .lit (.string bytes) => bytes.length + 1
  | .lit _ => 1
  | .nil => 1
  | .ptr d => uptoBulk d + 1
  | .slice elems spare => uptoBulkAll elems + uptoBulkAll spare + 1
  | .agg parts => uptoBulkAll parts + 1
  | .iface _ d => uptoBulk d + 1
  | .map entries => uptoBulkEntries entries + 1
  | .held _ => 1
def uptoBulkAll {H : Type} : List (DataW H) → Nat
  | [] => 0
  | d :: r => uptoBulk d + uptoBulkAll r
def uptoBulkEntries {H : Type} : List (Lit × DataW H) → Nat
  | [] => 0
  | x :: r => uptoBulkEntry x + uptoBulkEntries r
def uptoBulkEntry {H : Type} : Lit × DataW H → Nat
  | (.string bytes, d) => bytes.length + uptoBulk d + 1
  | (_, d) => uptoBulk d + 1
 end
def uptoSmall : (H : Type) → List (DataW H) → Bool := fun _ ds => decide (uptoBulkAll ds ≤ 1048576)
def OpenSpec.upto (s : _root_.Go.ChangeSpec) : _root_.Go.OpenSpec := { _root_.Go.OpenSpec.ofChange s with cond := some uptoSmall }

/-- 'sievelaw05.EntityFinds', WHERE WHAT IT READS IS OF BULK AT MOST 1048576: true; the input reads as it did. -/
def entityFindsUptoRow : OpenClaim := { program := "ytkinpihjjelcpaa", sum := "fc30f7ff757090c4de51f6cb10123ebfff7142e0be6d47e6eba608b7e6706271", func := "sieve/sievelaw05.EntityFinds", spec := "entityFinds", apart := false, narrowed := true }
def EntityFindsUptoSaid : Prop := entityFindsUptoRow.holds Try.pinned (OpenSpec.upto entityFindsSpec)

/-- 'sievelaw05.EntitySure', WHERE WHAT IT READS IS OF BULK AT MOST 1048576: true; the input reads as it did. -/
def entitySureUptoRow : OpenClaim := { program := "ytkinpihjjelcpaa", sum := "fc30f7ff757090c4de51f6cb10123ebfff7142e0be6d47e6eba608b7e6706271", func := "sieve/sievelaw05.EntitySure", spec := "entitySure", apart := false, narrowed := true }
def EntitySureUptoSaid : Prop := entitySureUptoRow.holds Try.pinned (OpenSpec.upto entitySureSpec)

/-- 'sievelaw05.EntityBack', WHERE WHAT IT READS IS OF BULK AT MOST 1048576: true; the input reads as it did. -/
def entityBackUptoRow : OpenClaim := { program := "ytkinpihjjelcpaa", sum := "fc30f7ff757090c4de51f6cb10123ebfff7142e0be6d47e6eba608b7e6706271", func := "sieve/sievelaw05.EntityBack", spec := "entityBack", apart := false, narrowed := true }
def EntityBackUptoSaid : Prop := entityBackUptoRow.holds Try.pinned (OpenSpec.upto entityBackSpec)

/-- 'sievelaw05.EntityNames', WHERE WHAT IT READS IS OF BULK AT MOST 1048576: true; the input reads as it did. -/
def entityNamesUptoRow : OpenClaim := { program := "ytkinpihjjelcpaa", sum := "fc30f7ff757090c4de51f6cb10123ebfff7142e0be6d47e6eba608b7e6706271", func := "sieve/sievelaw05.EntityNames", spec := "entityNames", unfollowed := true, recurses := true, apart := false, narrowed := true }
def EntityNamesUptoSaid : Prop := entityNamesUptoRow.holds Try.pinned (OpenSpec.upto entityNamesSpec)

end Rows
end Go.Proofs.Ytkinpihjjelcpaa
