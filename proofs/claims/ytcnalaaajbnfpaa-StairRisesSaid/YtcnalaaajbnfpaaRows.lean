/-
  No cell of these rows narrows 'for every input' (looked for: loops, veiled, ifaces, maps, wideKeys, modest, calm, conditions, laid).
  DERIVED. THE GIVEN ROWS OF THIS SEAT. 4 by the template 'for every input the law returns true; each argument reads behind the call as it read before'; 0 by the template 'total and deterministic' (their statements: YtcnalaaajbnfpaaTotals.lean).
  GIVEN WITH THE SEED: the statements are not yours to turn. If you find one false, say at which input.
  Laid BY PROGRAM, IN A SANDBOX (cutbox-rows.mjs): the forced cells as the released guide's own fill.sh prints them over the translation ffe766446fbdccad… (all of the seat's roots in one cut). By AI agents, Wed Nov 11 2026. No macro, syntax, notation, axiom, sorry.
-/
import Derived.Test.YtcnalaaajbnfpaaChecked
import GoSem.Claim
import GoSem.ClaimJoined
import GoSem.ClaimMapViews
import Derived.JoinedTies
import Derived.KernelRfl
namespace Go.Proofs.Ytcnalaaajbnfpaa
/- THE CELL 'sum', in the pinned program and in every row, IS THE sha256 OF THE DUMP (.gsa) THAT YtcnalaaajbnfpaaProg.lean LOADS. Nothing in Lean hashes anything: it is a label: what it is worth is what the hold of that sum in a sandbox is worth. -/
noncomputable def Try.pinned : Pinned := { name := "ytcnalaaajbnfpaa", sum := "ffe766446fbdccad31ca62cc6e72447291c2e94e773fc63ad7bdc388dcc52bae", checked := Try.checked }
namespace Rows
def none {H : Type} : Left H := { results := [], args := [] }

/-- 'cohortlaw22.StairRises': WHATEVER THE INPUT: true; the input reads as it did. -/
def stairRisesSpec : ChangeSpec := { name := "stairRises", fn := fun _ => fun
  | [d1, d2, d3, d4] => { results := [.lit (.bool true)], args := [d1, d2, d3, d4] }
  | _ => none }
def stairRisesRow : OpenClaim := { program := "ytcnalaaajbnfpaa", sum := "ffe766446fbdccad31ca62cc6e72447291c2e94e773fc63ad7bdc388dcc52bae", func := "cohort/cohortlaw22.StairRises", spec := "stairRises", unfollowed := true, recurses := true, apart := false }
def StairRisesSaid : Prop := stairRisesRow.holds Try.pinned (OpenSpec.ofChange stairRisesSpec)

/-- ITS FALSE NEIGHBOUR: 'it returns false'. Refute it at one input. -/
def stairRisesWrong : ChangeSpec := { name := "stairRises", fn := fun _ => fun
  | [d1, d2, d3, d4] => { results := [.lit (.bool false)], args := [d1, d2, d3, d4] }
  | _ => none }
def StairRisesWrongFalsely : Prop := stairRisesRow.holds Try.pinned (OpenSpec.ofChange stairRisesWrong)

/-- 'cohortlaw21.TrackTells': WHATEVER THE INPUT: true; the input reads as it did. -/
def trackTellsSpec : ChangeSpec := { name := "trackTells", fn := fun _ => fun
  | [d1, d2, d3] => { results := [.lit (.bool true)], args := [d1, d2, d3] }
  | _ => none }
def trackTellsRow : OpenClaim := { program := "ytcnalaaajbnfpaa", sum := "ffe766446fbdccad31ca62cc6e72447291c2e94e773fc63ad7bdc388dcc52bae", func := "cohort/cohortlaw21.TrackTells", spec := "trackTells", inPlace := ["internal/reflectlite.TypeOf"], unfollowed := true, recurses := true, apart := false }
def TrackTellsSaid : Prop := trackTellsRow.holds Try.pinned (OpenSpec.ofChange trackTellsSpec)

/-- ITS FALSE NEIGHBOUR: 'it returns false'. Refute it at one input. -/
def trackTellsWrong : ChangeSpec := { name := "trackTells", fn := fun _ => fun
  | [d1, d2, d3] => { results := [.lit (.bool false)], args := [d1, d2, d3] }
  | _ => none }
def TrackTellsWrongFalsely : Prop := trackTellsRow.holds Try.pinned (OpenSpec.ofChange trackTellsWrong)

/-- 'cohortlaw21.TrackSteady': WHATEVER THE INPUT: true; the input reads as it did. -/
def trackSteadySpec : ChangeSpec := { name := "trackSteady", fn := fun _ => fun
  | [d1, d2, d3] => { results := [.lit (.bool true)], args := [d1, d2, d3] }
  | _ => none }
def trackSteadyRow : OpenClaim := { program := "ytcnalaaajbnfpaa", sum := "ffe766446fbdccad31ca62cc6e72447291c2e94e773fc63ad7bdc388dcc52bae", func := "cohort/cohortlaw21.TrackSteady", spec := "trackSteady", inPlace := ["internal/reflectlite.TypeOf"], unfollowed := true, recurses := true, apart := false }
def TrackSteadySaid : Prop := trackSteadyRow.holds Try.pinned (OpenSpec.ofChange trackSteadySpec)

/-- ITS FALSE NEIGHBOUR: 'it returns false'. Refute it at one input. -/
def trackSteadyWrong : ChangeSpec := { name := "trackSteady", fn := fun _ => fun
  | [d1, d2, d3] => { results := [.lit (.bool false)], args := [d1, d2, d3] }
  | _ => none }
def TrackSteadyWrongFalsely : Prop := trackSteadyRow.holds Try.pinned (OpenSpec.ofChange trackSteadyWrong)

/-- 'cohortlaw21.TrackRises': WHATEVER THE INPUT: true; the input reads as it did. -/
def trackRisesSpec : ChangeSpec := { name := "trackRises", fn := fun _ => fun
  | [d1, d2, d3, d4] => { results := [.lit (.bool true)], args := [d1, d2, d3, d4] }
  | _ => none }
def trackRisesRow : OpenClaim := { program := "ytcnalaaajbnfpaa", sum := "ffe766446fbdccad31ca62cc6e72447291c2e94e773fc63ad7bdc388dcc52bae", func := "cohort/cohortlaw21.TrackRises", spec := "trackRises", inPlace := ["internal/reflectlite.TypeOf"], unfollowed := true, recurses := true, apart := false }
def TrackRisesSaid : Prop := trackRisesRow.holds Try.pinned (OpenSpec.ofChange trackRisesSpec)

/-- ITS FALSE NEIGHBOUR: 'it returns false'. Refute it at one input. -/
def trackRisesWrong : ChangeSpec := { name := "trackRises", fn := fun _ => fun
  | [d1, d2, d3, d4] => { results := [.lit (.bool false)], args := [d1, d2, d3, d4] }
  | _ => none }
def TrackRisesWrongFalsely : Prop := trackRisesRow.holds Try.pinned (OpenSpec.ofChange trackRisesWrong)

/- THE SECOND FORM. 'bulk': how many values and letters a reading holds, each counted each time it is reached (what is shared counts as often as it is met; a slice's spare places count too). A statement '..UptoSaid' is the law's where the arguments, and the package variables that the reading takes, are together of bulk at most 1048576: NARROWER than '..Said'. Prove '..Said' where nothing that the law and all that it calls make is longer than what came in: it says more and counts as full. Else prove '..UptoSaid'. A law counts once. -/
mutual
def uptoBulk {H : Type} : DataW H → Nat
  | .lit (.string bytes) => bytes.length + 1
  | .lit _ => 1
  | .nil => 1
  | .ptr d => uptoBulk d + 1
  | .slice elems spare => uptoBulkAll elems + uptoBulkAll spare + 1
  | .agg parts => uptoBulkAll parts + 1
  | .iface _ d => uptoBulk d + 1
  | .map entries => uptoBulkEntries entries + 1
  | .held _ => 1
def uptoBulkAll {H : Type} : List (DataW H) → Nat
  | [] => 0
  | d :: r => uptoBulk d + uptoBulkAll r
def uptoBulkEntries {H : Type} : List (Lit × DataW H) → Nat
  | [] => 0
  | x :: r => uptoBulkEntry x + uptoBulkEntries r
def uptoBulkEntry {H : Type} : Lit × DataW H → Nat
  | (.string bytes, d) => bytes.length + uptoBulk d + 1
  | (_, d) => uptoBulk d + 1
 end
def uptoSmall : (H : Type) → List (DataW H) → Bool := fun _ ds => decide (uptoBulkAll ds ≤ 1048576)
def OpenSpec.upto (s : _root_.Go.ChangeSpec) : _root_.Go.OpenSpec := { _root_.Go.OpenSpec.ofChange s with cond := some uptoSmall }

/-- 'cohortlaw22.StairRises', WHERE WHAT IT READS IS OF BULK AT MOST 1048576: true; the input reads as it did. -/
def stairRisesUptoRow : OpenClaim := { program := "ytcnalaaajbnfpaa", sum := "ffe766446fbdccad31ca62cc6e72447291c2e94e773fc63ad7bdc388dcc52bae", func := "cohort/cohortlaw22.StairRises", spec := "stairRises", unfollowed := true, recurses := true, apart := false, narrowed := true }
def StairRisesUptoSaid : Prop := stairRisesUptoRow.holds Try.pinned (OpenSpec.upto stairRisesSpec)

/-- 'cohortlaw21.TrackTells', WHERE WHAT IT READS IS OF BULK AT MOST 1048576: true; the input reads as it did. -/
def trackTellsUptoRow : OpenClaim := { program := "ytcnalaaajbnfpaa", sum := "ffe766446fbdccad31ca62cc6e72447291c2e94e773fc63ad7bdc388dcc52bae", func := "cohort/cohortlaw21.TrackTells", spec := "trackTells", inPlace := ["internal/reflectlite.TypeOf"], unfollowed := true, recurses := true, apart := false, narrowed := true }
def TrackTellsUptoSaid : Prop := trackTellsUptoRow.holds Try.pinned (OpenSpec.upto trackTellsSpec)

/-- 'cohortlaw21.TrackSteady', WHERE WHAT IT READS IS OF BULK AT MOST 1048576: true; the input reads as it did. -/
def trackSteadyUptoRow : OpenClaim := { program := "ytcnalaaajbnfpaa", sum := "ffe766446fbdccad31ca62cc6e72447291c2e94e773fc63ad7bdc388dcc52bae", func := "cohort/cohortlaw21.TrackSteady", spec := "trackSteady", inPlace := ["internal/reflectlite.TypeOf"], unfollowed := true, recurses := true, apart := false, narrowed := true }
def TrackSteadyUptoSaid : Prop := trackSteadyUptoRow.holds Try.pinned (OpenSpec.upto trackSteadySpec)

/-- 'cohortlaw21.TrackRises', WHERE WHAT IT READS IS OF BULK AT MOST 1048576: true; the input reads as it did. -/
def trackRisesUptoRow : OpenClaim := { program := "ytcnalaaajbnfpaa", sum := "ffe766446fbdccad31ca62cc6e72447291c2e94e773fc63ad7bdc388dcc52bae", func := "cohort/cohortlaw21.TrackRises", spec := "trackRises", inPlace := ["internal/reflectlite.TypeOf"], unfollowed := true, recurses := true, apart := false, narrowed := true }
def TrackRisesUptoSaid : Prop := trackRisesUptoRow.holds Try.pinned (OpenSpec.upto trackRisesSpec)

end Rows
end Go.Proofs.Ytcnalaaajbnfpaa
