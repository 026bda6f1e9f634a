/-
  No cell of these rows narrows 'for every input' (looked for: loops, veiled, ifaces, maps, wideKeys, modest, calm, conditions, laid).
  DERIVED. THE GIVEN ROWS OF THIS SEAT. 5 by the template 'for every input the law returns true; each argument reads behind the call as it read before'; 0 by the template 'total and deterministic' (their statements: YthgbipgfplokeaaTotals.lean).
  GIVEN WITH THE SEED: the statements are not yours to turn. If you find one false, say at which input.
  Laid BY PROGRAM, IN A SANDBOX (cutbox-rows.mjs): the forced cells as the released guide's own fill.sh prints them over the translation 6a75133a385abfb4… (all of the seat's roots in one cut). By AI agents, Wed Nov 11 2026. No macro, syntax, notation, axiom, sorry.
-/
import Derived.Test.YthgbipgfplokeaaChecked
import GoSem.Claim
import GoSem.ClaimJoined
import GoSem.ClaimMapViews
import Derived.JoinedTies
import Derived.KernelRfl
namespace Go.Proofs.Ythgbipgfplokeaa
/- THE CELL 'sum', in the pinned program and in every row, IS THE sha256 OF THE DUMP (.gsa) THAT YthgbipgfplokeaaProg.lean LOADS. Nothing in Lean hashes anything: it is a label: what it is worth is what the hold of that sum in a sandbox is worth. -/
noncomputable def Try.pinned : Pinned := { name := "ythgbipgfplokeaa", sum := "6a75133a385abfb4ced877cfa8a696badd439d44dec5e3a4296e8456f8c0a234", checked := Try.checked }
namespace Rows
def none {H : Type} : Left H := { results := [], args := [] }

/-- 'cohortlaw07.SealPuts': WHATEVER THE INPUT: true; the input reads as it did. -/
def sealPutsSpec : ChangeSpec := { name := "sealPuts", fn := fun _ => fun
  | [d1, d2] => { results := [.lit (.bool true)], args := [d1, d2] }
  | _ => none }
def sealPutsRow : OpenClaim := { program := "ythgbipgfplokeaa", sum := "6a75133a385abfb4ced877cfa8a696badd439d44dec5e3a4296e8456f8c0a234", func := "cohort/cohortlaw07.SealPuts", spec := "sealPuts", apart := false }
def SealPutsSaid : Prop := sealPutsRow.holds Try.pinned (OpenSpec.ofChange sealPutsSpec)

/-- ITS FALSE NEIGHBOUR: 'it returns false'. Refute it at one input. -/
def sealPutsWrong : ChangeSpec := { name := "sealPuts", fn := fun _ => fun
  | [d1, d2] => { results := [.lit (.bool false)], args := [d1, d2] }
  | _ => none }
def SealPutsWrongFalsely : Prop := sealPutsRow.holds Try.pinned (OpenSpec.ofChange sealPutsWrong)

/-- 'cohortlaw07.SealGets': WHATEVER THE INPUT: true; the input reads as it did. -/
def sealGetsSpec : ChangeSpec := { name := "sealGets", fn := fun _ => fun
  | [d1, d2] => { results := [.lit (.bool true)], args := [d1, d2] }
  | _ => none }
def sealGetsRow : OpenClaim := { program := "ythgbipgfplokeaa", sum := "6a75133a385abfb4ced877cfa8a696badd439d44dec5e3a4296e8456f8c0a234", func := "cohort/cohortlaw07.SealGets", spec := "sealGets", apart := false }
def SealGetsSaid : Prop := sealGetsRow.holds Try.pinned (OpenSpec.ofChange sealGetsSpec)

/-- ITS FALSE NEIGHBOUR: 'it returns false'. Refute it at one input. -/
def sealGetsWrong : ChangeSpec := { name := "sealGets", fn := fun _ => fun
  | [d1, d2] => { results := [.lit (.bool false)], args := [d1, d2] }
  | _ => none }
def SealGetsWrongFalsely : Prop := sealGetsRow.holds Try.pinned (OpenSpec.ofChange sealGetsWrong)

/-- 'cohortlaw07.SealBack': WHATEVER THE INPUT: true; the input reads as it did. -/
def sealBackSpec : ChangeSpec := { name := "sealBack", fn := fun _ => fun
  | [d1, d2, d3, d4] => { results := [.lit (.bool true)], args := [d1, d2, d3, d4] }
  | _ => none }
def sealBackRow : OpenClaim := { program := "ythgbipgfplokeaa", sum := "6a75133a385abfb4ced877cfa8a696badd439d44dec5e3a4296e8456f8c0a234", func := "cohort/cohortlaw07.SealBack", spec := "sealBack", apart := false }
def SealBackSaid : Prop := sealBackRow.holds Try.pinned (OpenSpec.ofChange sealBackSpec)

/-- ITS FALSE NEIGHBOUR: 'it returns false'. Refute it at one input. -/
def sealBackWrong : ChangeSpec := { name := "sealBack", fn := fun _ => fun
  | [d1, d2, d3, d4] => { results := [.lit (.bool false)], args := [d1, d2, d3, d4] }
  | _ => none }
def SealBackWrongFalsely : Prop := sealBackRow.holds Try.pinned (OpenSpec.ofChange sealBackWrong)

/-- 'cohortlaw07.SealTorn': WHATEVER THE INPUT: true; the input reads as it did. -/
def sealTornSpec : ChangeSpec := { name := "sealTorn", fn := fun _ => fun
  | [d1, d2, d3, d4, d5] => { results := [.lit (.bool true)], args := [d1, d2, d3, d4, d5] }
  | _ => none }
def sealTornRow : OpenClaim := { program := "ythgbipgfplokeaa", sum := "6a75133a385abfb4ced877cfa8a696badd439d44dec5e3a4296e8456f8c0a234", func := "cohort/cohortlaw07.SealTorn", spec := "sealTorn", apart := false }
def SealTornSaid : Prop := sealTornRow.holds Try.pinned (OpenSpec.ofChange sealTornSpec)

/-- ITS FALSE NEIGHBOUR: 'it returns false'. Refute it at one input. -/
def sealTornWrong : ChangeSpec := { name := "sealTorn", fn := fun _ => fun
  | [d1, d2, d3, d4, d5] => { results := [.lit (.bool false)], args := [d1, d2, d3, d4, d5] }
  | _ => none }
def SealTornWrongFalsely : Prop := sealTornRow.holds Try.pinned (OpenSpec.ofChange sealTornWrong)

/-- 'cohortlaw07.SealNext': WHATEVER THE INPUT: true; the input reads as it did. -/
def sealNextSpec : ChangeSpec := { name := "sealNext", fn := fun _ => fun
  | [d1, d2, d3, d4, d5, d6] => { results := [.lit (.bool true)], args := [d1, d2, d3, d4, d5, d6] }
  | _ => none }
def sealNextRow : OpenClaim := { program := "ythgbipgfplokeaa", sum := "6a75133a385abfb4ced877cfa8a696badd439d44dec5e3a4296e8456f8c0a234", func := "cohort/cohortlaw07.SealNext", spec := "sealNext", apart := false }
def SealNextSaid : Prop := sealNextRow.holds Try.pinned (OpenSpec.ofChange sealNextSpec)

/-- ITS FALSE NEIGHBOUR: 'it returns false'. Refute it at one input. -/
def sealNextWrong : ChangeSpec := { name := "sealNext", fn := fun _ => fun
  | [d1, d2, d3, d4, d5, d6] => { results := [.lit (.bool false)], args := [d1, d2, d3, d4, d5, d6] }
  | _ => none }
def SealNextWrongFalsely : Prop := sealNextRow.holds Try.pinned (OpenSpec.ofChange sealNextWrong)

/- THE SECOND FORM. 'bulk': how many values and letters a reading holds, each counted each time it is reached (what is shared counts as often as it is met; a slice's spare places count too). A statement '..UptoSaid' is the law's where the arguments, and the package variables that the reading takes, are together of bulk at most 1048576: NARROWER than '..Said'. Prove '..Said' where nothing that the law and all that it calls make is longer than what came in: it says more and counts as full. Else prove '..UptoSaid'. A law counts once. -/
mutual
def uptoBulk {H : Type} : DataW H → Nat
  | .lit (.string bytes) => bytes.length + 1
  | .lit _ => 1
  | .nil => 1
  | .ptr d => uptoBulk d + 1
  | .slice elems spare => uptoBulkAll elems + uptoBulkAll spare + 1
  | .agg parts => uptoBulkAll parts + 1
  | .iface _ d => uptoBulk d + 1
  | .map entries => uptoBulkEntries entries + 1
  | .held _ => 1
def uptoBulkAll {H : Type} : List (DataW H) → Nat
  | [] => 0
  | d :: r => uptoBulk d + uptoBulkAll r
def uptoBulkEntries {H : Type} : List (Lit × DataW H) → Nat
  | [] => 0
  | x :: r => uptoBulkEntry x + uptoBulkEntries r
def uptoBulkEntry {H : Type} : Lit × DataW H → Nat
  | (.string bytes, d) => bytes.length + uptoBulk d + 1
  | (_, d) => uptoBulk d + 1
 end
def uptoSmall : (H : Type) → List (DataW H) → Bool := fun _ ds => decide (uptoBulkAll ds ≤ 1048576)
def OpenSpec.upto (s : _root_.Go.ChangeSpec) : _root_.Go.OpenSpec := { _root_.Go.OpenSpec.ofChange s with cond := some uptoSmall }

/-- 'cohortlaw07.SealPuts', WHERE WHAT IT READS IS OF BULK AT MOST 1048576: true; the input reads as it did. -/
def sealPutsUptoRow : OpenClaim := { program := "ythgbipgfplokeaa", sum := "6a75133a385abfb4ced877cfa8a696badd439d44dec5e3a4296e8456f8c0a234", func := "cohort/cohortlaw07.SealPuts", spec := "sealPuts", apart := false, narrowed := true }
def SealPutsUptoSaid : Prop := sealPutsUptoRow.holds Try.pinned (OpenSpec.upto sealPutsSpec)

/-- 'cohortlaw07.SealGets', WHERE WHAT IT READS IS OF BULK AT MOST 1048576: true; the input reads as it did. -/
def sealGetsUptoRow : OpenClaim := { program := "ythgbipgfplokeaa", sum := "6a75133a385abfb4ced877cfa8a696badd439d44dec5e3a4296e8456f8c0a234", func := "cohort/cohortlaw07.SealGets", spec := "sealGets", apart := false, narrowed := true }
def SealGetsUptoSaid : Prop := sealGetsUptoRow.holds Try.pinned (OpenSpec.upto sealGetsSpec)

/-- 'cohortlaw07.SealBack', WHERE WHAT IT READS IS OF BULK AT MOST 1048576: true; the input reads as it did. -/
def sealBackUptoRow : OpenClaim := { program := "ythgbipgfplokeaa", sum := "6a75133a385abfb4ced877cfa8a696badd439d44dec5e3a4296e8456f8c0a234", func := "cohort/cohortlaw07.SealBack", spec := "sealBack", apart := false, narrowed := true }
def SealBackUptoSaid : Prop := sealBackUptoRow.holds Try.pinned (OpenSpec.upto sealBackSpec)

/-- 'cohortlaw07.SealTorn', WHERE WHAT IT READS IS OF BULK AT MOST 1048576: true; the input reads as it did. -/
def sealTornUptoRow : OpenClaim := { program := "ythgbipgfplokeaa", sum := "6a75133a385abfb4ced877cfa8a696badd439d44dec5e3a4296e8456f8c0a234", func := "cohort/cohortlaw07.SealTorn", spec := "sealTorn", apart := false, narrowed := true }
def SealTornUptoSaid : Prop := sealTornUptoRow.holds Try.pinned (OpenSpec.upto sealTornSpec)

/-- 'cohortlaw07.SealNext', WHERE WHAT IT READS IS OF BULK AT MOST 1048576: true; the input reads as it did. -/
def sealNextUptoRow : OpenClaim := { program := "ythgbipgfplokeaa", sum := "6a75133a385abfb4ced877cfa8a696badd439d44dec5e3a4296e8456f8c0a234", func := "cohort/cohortlaw07.SealNext", spec := "sealNext", apart := false, narrowed := true }
def SealNextUptoSaid : Prop := sealNextUptoRow.holds Try.pinned (OpenSpec.upto sealNextSpec)

end Rows
end Go.Proofs.Ythgbipgfplokeaa
