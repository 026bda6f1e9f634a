/- TableTexts, walked. No condition. -/
import Derived.Test.YtghgadfcnggapaaU8
import Derived.Laws.CopyOwn
import Derived.Laws.CopyRow
import Derived.ChangeKeysEq
import Derived.Deep.RegionHeld3
import Derived.Deep.MidRow
import Derived.Shelf.Abstract
import Derived.Lib.Overlaps
import Derived.Lib.AppendZerosOnto
import Derived.Shelf.Spec.SlicesInsertGrow
namespace Go.Proofs.Ytghgadfcnggapaa.GA.U
open Go.RowKit Go.Shelf Go.Proofs.YtghgadfcnggapaaW.PrintWords Go.Proofs.YtghgadfcnggapaaW.PrintLast Go.Proofs.YtghgadfcnggapaaW.PrintMore
set_option linter.unusedVariables false
set_option linter.unusedSimpArgs false

theorem Keys.ks (gt : Nat) (B : Nat) (v : Value) (xs : List S56) (ks : List ByteArray) (w : World) (hT : Tab w gt 60 B v xs) (hks : xs.map (·.f0) = ks) : Calls Try.prog 11 #[.pointer (some ⟨gt, 0, none⟩)] w fun e w' => ∃ A c, e = .returned (.slice A ks.length c) ∧ Kd.R Kd.string 9 w' w.heap.size (fun _ => True) (.slice A ks.length c) ks ∧ Below w.heap.size w w' := by
  subst hks
  refine (Keys.calls gt 60 B v xs w hT).mono ?_
  rintro e w' ⟨u, rfl, hr, hb⟩
  obtain ⟨A, c, rfl⟩ := Kd.R_slice hr
  exact ⟨A, c, rfl, hr, hb⟩
theorem ks_get {xs : List S56} {ks : List ByteArray} (h : xs.map (·.f0) = ks) (p : Nat) (hp : p < xs.length) : ks.getD p ByteArray.empty = (xs.getD p z56).f0 := by
  subst h
  rw [getD_lt xs p hp, List.getD_eq_getElem?_getD, List.getElem?_eq_getElem (by rw [List.length_map]; exact hp), List.getElem_map]
  rfl

end Go.Proofs.Ytghgadfcnggapaa.GA.U
