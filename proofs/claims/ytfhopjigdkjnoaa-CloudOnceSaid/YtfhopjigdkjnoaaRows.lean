/-
  No cell of these rows narrows 'for every input' (looked for: loops, veiled, ifaces, maps, wideKeys, modest, calm, conditions, laid).
  DERIVED. THE GIVEN ROWS OF THIS SEAT. 3 by the template 'for every input the law returns true; each argument reads behind the call as it read before'; 0 by the template 'total and deterministic' (their statements: YtfhopjigdkjnoaaTotals.lean).
  GIVEN WITH THE SEED: the statements are not yours to turn. If you find one false, say at which input.
  Laid BY PROGRAM, IN A SANDBOX (cutbox-rows.mjs): the forced cells as the released guide's own fill.sh prints them over the translation 58b42563cf3befb3… (all of the seat's roots in one cut). By AI agents, Wed Nov 11 2026. No macro, syntax, notation, axiom, sorry.
-/
import Derived.Test.YtfhopjigdkjnoaaChecked
import GoSem.Claim
import GoSem.ClaimJoined
import GoSem.ClaimMapViews
import Derived.JoinedTies
import Derived.KernelRfl
namespace Go.Proofs.Ytfhopjigdkjnoaa
/- THE CELL 'sum', in the pinned program and in every row, IS THE sha256 OF THE DUMP (.gsa) THAT YtfhopjigdkjnoaaProg.lean LOADS. Nothing in Lean hashes anything: it is a label: what it is worth is what the hold of that sum in a sandbox is worth. -/
noncomputable def Try.pinned : Pinned := { name := "ytfhopjigdkjnoaa", sum := "58b42563cf3befb3a9aad111b8ef0082af9e53d45f7295c31aa55f9137daf4e8", checked := Try.checked }
namespace Rows
def none {H : Type} : Left H := { results := [], args := [] }

/-- 'cohortlaw19.CloudAgain': WHATEVER THE INPUT: true; the input reads as it did. -/
def cloudAgainSpec : ChangeSpec := { name := "cloudAgain", fn := fun _ => fun
  | [d1, d2, d3, d4] => { results := [.lit (.bool true)], args := [d1, d2, d3, d4] }
  | _ => none }
def cloudAgainRow : OpenClaim := { program := "ytfhopjigdkjnoaa", sum := "58b42563cf3befb3a9aad111b8ef0082af9e53d45f7295c31aa55f9137daf4e8", func := "cohort/cohortlaw19.CloudAgain", spec := "cloudAgain", unfollowed := true, recurses := true, apart := false }
def CloudAgainSaid : Prop := cloudAgainRow.holds Try.pinned (OpenSpec.ofChange cloudAgainSpec)

/-- ITS FALSE NEIGHBOUR: 'it returns false'. Refute it at one input. -/
def cloudAgainWrong : ChangeSpec := { name := "cloudAgain", fn := fun _ => fun
  | [d1, d2, d3, d4] => { results := [.lit (.bool false)], args := [d1, d2, d3, d4] }
  | _ => none }
def CloudAgainWrongFalsely : Prop := cloudAgainRow.holds Try.pinned (OpenSpec.ofChange cloudAgainWrong)

/-- 'cohortlaw19.CloudOnce': WHATEVER THE INPUT: true; the input reads as it did. -/
def cloudOnceSpec : ChangeSpec := { name := "cloudOnce", fn := fun _ => fun
  | [d] => { results := [.lit (.bool true)], args := [d] }
  | _ => none }
def cloudOnceRow : OpenClaim := { program := "ytfhopjigdkjnoaa", sum := "58b42563cf3befb3a9aad111b8ef0082af9e53d45f7295c31aa55f9137daf4e8", func := "cohort/cohortlaw19.CloudOnce", spec := "cloudOnce", unfollowed := true, recurses := true, apart := false }
def CloudOnceSaid : Prop := cloudOnceRow.holds Try.pinned (OpenSpec.ofChange cloudOnceSpec)

/-- ITS FALSE NEIGHBOUR: 'it returns false'. Refute it at one input. -/
def cloudOnceWrong : ChangeSpec := { name := "cloudOnce", fn := fun _ => fun
  | [d] => { results := [.lit (.bool false)], args := [d] }
  | _ => none }
def CloudOnceWrongFalsely : Prop := cloudOnceRow.holds Try.pinned (OpenSpec.ofChange cloudOnceWrong)

/-- 'cohortlaw19.CloudNil': WHATEVER THE INPUT: true; the input reads as it did. -/
def cloudNilSpec : ChangeSpec := { name := "cloudNil", fn := fun _ => fun
  | [d1, d2, d3] => { results := [.lit (.bool true)], args := [d1, d2, d3] }
  | _ => none }
def cloudNilRow : OpenClaim := { program := "ytfhopjigdkjnoaa", sum := "58b42563cf3befb3a9aad111b8ef0082af9e53d45f7295c31aa55f9137daf4e8", func := "cohort/cohortlaw19.CloudNil", spec := "cloudNil", inPlace := ["maps.clone"], unfollowed := true, recurses := true, apart := false }
def CloudNilSaid : Prop := cloudNilRow.holds Try.pinned (OpenSpec.ofChange cloudNilSpec)

/-- ITS FALSE NEIGHBOUR: 'it returns false'. Refute it at one input. -/
def cloudNilWrong : ChangeSpec := { name := "cloudNil", fn := fun _ => fun
  | [d1, d2, d3] => { results := [.lit (.bool false)], args := [d1, d2, d3] }
  | _ => none }
def CloudNilWrongFalsely : Prop := cloudNilRow.holds Try.pinned (OpenSpec.ofChange cloudNilWrong)

/- THE SECOND FORM. 'bulk': how many values and letters a reading holds, each counted each time it is reached (what is shared counts as often as it is met; a slice's spare places count too). A statement '..UptoSaid' is the law's where the arguments, and the package variables that the reading takes, are together of bulk at most 1048576: NARROWER than '..Said'. Prove '..Said' where nothing that the law and all that it calls make is longer than what came in: it says more and counts as full. Else prove '..UptoSaid'. A law counts once. -/
mutual
def uptoBulk {H : Type} : DataW H → Nat
  | .lit (.string bytes) => bytes.length + 1
  | .lit _ => 1
  | .nil => 1
  | .ptr d => uptoBulk d + 1
  | .slice elems spare => uptoBulkAll elems + uptoBulkAll spare + 1
  | .agg parts => uptoBulkAll parts + 1
  | .iface _ d => uptoBulk d + 1
  | .map entries => uptoBulkEntries entries + 1
  | .held _ => 1
def uptoBulkAll {H : Type} : List (DataW H) → Nat
  | [] => 0
  | d :: r => uptoBulk d + uptoBulkAll r
def uptoBulkEntries {H : Type} : List (Lit × DataW H) → Nat
  | [] => 0
  | x :: r => uptoBulkEntry x + uptoBulkEntries r
def uptoBulkEntry {H : Type} : Lit × DataW H → Nat
  | (.string bytes, d) => bytes.length + uptoBulk d + 1
  | (_, d) => uptoBulk d + 1
 end
def uptoSmall : (H : Type) → List (DataW H) → Bool := fun _ ds => decide (uptoBulkAll ds ≤ 1048576)
def OpenSpec.upto (s : _root_.Go.ChangeSpec) : _root_.Go.OpenSpec := { _root_.Go.OpenSpec.ofChange s with cond := some uptoSmall }

/-- 'cohortlaw19.CloudAgain', WHERE WHAT IT READS IS OF BULK AT MOST 1048576: true; the input reads as it did. -/
def cloudAgainUptoRow : OpenClaim := { program := "ytfhopjigdkjnoaa", sum := "58b42563cf3befb3a9aad111b8ef0082af9e53d45f7295c31aa55f9137daf4e8", func := "cohort/cohortlaw19.CloudAgain", spec := "cloudAgain", unfollowed := true, recurses := true, apart := false, narrowed := true }
def CloudAgainUptoSaid : Prop := cloudAgainUptoRow.holds Try.pinned (OpenSpec.upto cloudAgainSpec)

/-- 'cohortlaw19.CloudOnce', WHERE WHAT IT READS IS OF BULK AT MOST 1048576: true; the input reads as it did. -/
def cloudOnceUptoRow : OpenClaim := { program := "ytfhopjigdkjnoaa", sum := "58b42563cf3befb3a9aad111b8ef0082af9e53d45f7295c31aa55f9137daf4e8", func := "cohort/cohortlaw19.CloudOnce", spec := "cloudOnce", unfollowed := true, recurses := true, apart := false, narrowed := true }
def CloudOnceUptoSaid : Prop := cloudOnceUptoRow.holds Try.pinned (OpenSpec.upto cloudOnceSpec)

/-- 'cohortlaw19.CloudNil', WHERE WHAT IT READS IS OF BULK AT MOST 1048576: true; the input reads as it did. -/
def cloudNilUptoRow : OpenClaim := { program := "ytfhopjigdkjnoaa", sum := "58b42563cf3befb3a9aad111b8ef0082af9e53d45f7295c31aa55f9137daf4e8", func := "cohort/cohortlaw19.CloudNil", spec := "cloudNil", inPlace := ["maps.clone"], unfollowed := true, recurses := true, apart := false, narrowed := true }
def CloudNilUptoSaid : Prop := cloudNilUptoRow.holds Try.pinned (OpenSpec.upto cloudNilSpec)

end Rows
end Go.Proofs.Ytfhopjigdkjnoaa
