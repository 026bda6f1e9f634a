/- The law CrcPieces, where what it reads is of bulk at most 1048576: its row, out of the contract and the plain law. No condition but the statement's own. -/
import Derived.Test.YtihlnchmgcmdiaaRows
import Derived.Test.YtihlnchmgcmdiaaGCx1
import Derived.Test.YtihlnchmgcmdiaaFit
import Derived.Test.YtihlnchmgcmdiaaPureCrcPieces
import Derived.WalkKit
import Derived.ProofKit
import Derived.OpenShut
import Derived.ShutString
import Derived.ChangeOld
import Derived.Below
import Derived.JoinedCond
namespace Go.Proofs.Ytihlnchmgcmdiaa.crcPieces
open Go.ChangeShapes Go.WideShapes Go.ChangeAt Go.RowKit Go.Deep
open Go.Proofs.Ytihlnchmgcmdiaa.GC Go.Proofs.YtihlnchmgcmdiaaW.PrintWords Go.Proofs.YtihlnchmgcmdiaaW.PrintFit
set_option linter.unusedVariables false
theorem own : ownKnob Try.prog.godebug = none := by kernel_rfl
theorem laidOut : laidOutB Try.prog = true := by kernel_rfl

theorem one_le {H : Type} (d : DataW H) : 1 ≤ Rows.uptoBulk d := by
  cases d with
  | lit l => cases l <;> simp [Rows.uptoBulk]
  | nil => simp [Rows.uptoBulk]
  | ptr d => simp [Rows.uptoBulk]
  | slice elems spare => simp [Rows.uptoBulk]
  | agg parts => simp [Rows.uptoBulk]
  | iface t d => simp [Rows.uptoBulk]
  | map entries => simp [Rows.uptoBulk]
  | held h => simp [Rows.uptoBulk]
theorem length_le {H : Type} (l : List (DataW H)) : l.length ≤ Rows.uptoBulkAll l := by
  induction l with
  | nil => simp [Rows.uptoBulkAll]
  | cons x r ih => have := one_le x; simp only [Rows.uptoBulkAll, List.length_cons]; omega
theorem slice_le {H : Type} (elems spare : List (DataW H)) : elems.length ≤ Rows.uptoBulk (.slice elems spare) := by
  have h1 := length_le elems
  simp only [Rows.uptoBulk]
  omega
/-- lengths that are each at most a bulk are together at most the bulk -/
theorem sum_le {H : Type} {n : Nat} (D : Nat → DataW H) (l : List (List Int)) (hl : l.length = n) (h : ∀ j y, l[j]? = some y → y.length ≤ Rows.uptoBulk (D j)) : (l.map List.length).sum ≤ Rows.uptoBulkAll ((List.range n).map D) := by
  induction n generalizing D l with
  | zero => rw [List.length_eq_zero_iff.1 hl]; simp
  | succ n ih =>
    cases l with
    | nil => simp at hl
    | cons y r =>
      have h0 := h 0 y rfl
      have h1 := ih (fun j => D (j + 1)) r (by simpa using hl) (fun j z hz => h (j + 1) z (by simpa using hz))
      have e : ((List.range (n + 1)).map D) = D 0 :: (List.range n).map (fun j => D (j + 1)) := by
        rw [List.range_succ_eq_map, List.map_cons, List.map_map]; rfl
      rw [e, List.map_cons, List.sum_cons]
      simp only [Rows.uptoBulkAll]
      omega

variable {H : Type} {enc : TypeId × Value → H} {w : World} {base : Nat} {spare : Nat → Bool} {held : Bool}
/-- a piece, and what it bears -/
theorem piece {fuel : Nat} {cs : List Value} {x : DataW H × List MemPlace} (h : DataW.trod enc Try.prog w base spare held fuel 23 cs = some x) :
    ∃ y : List Int, (Kd.slice 5 (Kd.int .u8)).K w y cs ∧ (y.length ≤ maxLen ∧ ∀ z ∈ y, (Lit.int .u8 z).wf = true) ∧ y.length ≤ Rows.uptoBulk x.1 := by
  obtain ⟨y, hy, hok⟩ := slice_K Try.underlying23 (fits_int (k := .u8) Try.underlying5 (by kernel_rfl)) h
  refine ⟨y, hy, hok, ?_⟩
  obtain ⟨A, c, hcs, _, _⟩ := hy
  rcases open_slice Try.underlying23 h with ⟨h1, _⟩ | ⟨a, len, cap, m, n, D, Pl, h1, _, _, _, _, hx, _⟩
  · rw [h1] at hcs
    simp at hcs
    omega
  · rw [h1] at hcs
    have hlen : len = y.length := by simp at hcs; exact hcs.2.1
    rw [hx]
    show y.length ≤ Rows.uptoBulk (DataW.slice ((List.range len).map D) ((List.range (m - len)).map fun j => D (len + j)))
    have := slice_le ((List.range len).map D) ((List.range (m - len)).map fun j => D (len + j))
    simp only [List.length_map, List.length_range] at this
    omega
/-- pieces, and what they bear -/
theorem pieces {fuel : Nat} {cs : List Value} {x : DataW H × List MemPlace} (h : DataW.trod enc Try.prog w base spare held fuel 32 cs = some x) :
    ∃ l : List (List Int), (Kd.slice 23 (Kd.slice 5 (Kd.int .u8))).K w l cs ∧ (l.length ≤ maxLen ∧ ∀ y ∈ l, (y.length ≤ maxLen ∧ ∀ z ∈ y, (Lit.int .u8 z).wf = true)) ∧ (l.map List.length).sum ≤ Rows.uptoBulk x.1 := by
  rcases open_slice Try.underlying32 h with ⟨rfl, _⟩ | ⟨a, len, cap, m, n, D, Pl, rfl, hb, hl, hm, hmm, hx, hi⟩
  · exact ⟨[], ⟨none, 0, rfl, Nat.le_refl _, Kd.C_nil _ w⟩, ⟨by simp, by simp⟩, by simp⟩
  · have hlm : len ≤ m := by rw [hmm]; split <;> omega
    have hsz : Try.prog.cellsOf 23 = (Kd.slice 5 (Kd.int .u8)).sz := by kernel_rfl
    obtain ⟨l, hll, hp⟩ := list_of len (fun i y => ((y.length ≤ maxLen ∧ ∀ z ∈ y, (Lit.int .u8 z).wf = true) ∧ y.length ≤ Rows.uptoBulk (D i)) ∧ ∃ c : List Value, c.length = (Kd.slice 5 (Kd.int .u8)).sz ∧ (Kd.slice 5 (Kd.int .u8)).K w y c ∧ ∀ j u, c[j]? = some u → w.cell? (a.add (i * (Kd.slice 5 (Kd.int .u8)).sz + j)) = some u) (fun i hlt => by
      obtain ⟨cs', hc, ht'⟩ := hi i (by omega)
      rw [hsz] at hc
      obtain ⟨_, hcl, hat⟩ := World.cells?_some hc
      obtain ⟨y, hy, hok, hbk⟩ := piece ht'
      refine ⟨y, ⟨hok, hbk⟩, cs', hcl, hy, fun j u hu => ?_⟩
      have hjl : j < (Kd.slice 5 (Kd.int .u8)).sz := by
        rw [← hcl]
        exact (List.getElem?_eq_some_iff.1 hu).1
      have := hat j hjl
      rw [← Go.Deep.add_add, this]
      exact hu)
    have hml : len ≤ 9223372036854775807 := by have : cap ≤ maxLen := hm; unfold maxLen at this; omega
    refine ⟨l, ⟨some a, cap, by rw [hll], by omega, ⟨rfl, by omega, fun _ => ⟨a, rfl, fun j y hj => ?_⟩⟩⟩, ⟨?_, fun y hy => ?_⟩, ?_⟩
    · obtain ⟨_, c, h1, h2, h3⟩ := hp j y hj
      exact ⟨c, h1, h2, h3⟩
    · rw [hll]; exact Nat.le_trans hl hm
    · obtain ⟨j, hj⟩ := List.mem_iff_getElem?.1 hy
      exact (hp j y hj).1.1
    · have h1 := sum_le D l hll (fun j y hj => (hp j y hj).1.2)
      rw [hx]
      simp only [Rows.uptoBulk]
      omega

theorem contract (H : Type) (enc : TypeId × Value → H) (W : World) (base : Nat) (args : Array Value) (ds gs : List (DataW H)) (before : List MemPlace)
    (hval : ∀ (j : Nat) t v, Try.f4.params[j]? = some t → args[j]? = some v → Value.okWide Try.prog W .any base t v)
    (hW : DataW.Whole enc Try.prog Try.f4.params.toList Rows.crcPiecesSpec.vars false W args.toList ds gs before) (hk : Rows.uptoSmall H (ds ++ gs) = true) :
    Calls Try.prog 4 args W fun e W' => ∃ v, e = .returned v ∧ Rows.crcPiecesSpec.post enc Try.prog Try.f4 false true false false W args v W' := by
  have hW' := hW
  obtain ⟨p, q, hA0, hV, rfl, hfz, hnd⟩ := hW
  have hA : DataW.TrodAll enc Try.prog W 0 (fun _ => true) true Try.f4.params.toList args.toList ds p := hA0
  rw [Try.params4] at hA hval
  obtain ⟨v0, vs0, d0, ds0, p0, q0, hargs, rfl, rfl, h0, r0⟩ := trodAll_cons hA
  obtain ⟨rfl, rfl, rfl⟩ := trodAll_nil r0
  obtain rfl : args = #[v0] := by cases args; simp_all
  obtain ⟨rfl, rfl⟩ := trodVars_none hV
  obtain ⟨a0, len0, cap0, rfl⟩ := okWide_slice Try.underlying32 (hval 0 32 v0 rfl rfl)
  have k0 := h0
  have lt0 : ∀ x ∈ p0, x.block < W.heap.size := by obtain ⟨m, hm⟩ := k0; exact DataW.trod_lt m _ _ _ hm
  obtain ⟨l0, ⟨A0, c0, hcs0, hc0, hr0⟩, ok0, hs0⟩ : ∃ l : List (List Int), (Kd.slice 23 (Kd.slice 5 (Kd.int .u8))).K W l [.slice a0 len0 cap0] ∧ (l.length ≤ maxLen ∧ ∀ y ∈ l, (y.length ≤ maxLen ∧ ∀ z ∈ y, (Lit.int .u8 z).wf = true)) ∧ (l.map List.length).sum ≤ Rows.uptoBulk d0 := by
    obtain ⟨fuel, hf⟩ := h0
    exact pieces hf
  obtain ⟨rfl, rfl, rfl⟩ : a0 = A0 ∧ len0 = l0.length ∧ cap0 = c0 := by simpa using hcs0
  have hb : Rows.uptoBulk d0 ≤ 1048576 := by
    have := of_decide_eq_true hk
    simp only [List.append_nil, Rows.uptoBulkAll] at this
    omega
  clear hA0 hval
  obtain ⟨k, h⟩ := Pure.CrcPieces l0 ok0.1 ok0.2 (by omega)
  refine (cohortlaw03_CrcPieces.calls k _ _ l0 true W hr0 hc0 h).mono ?_
  rintro e W' ⟨rfl, bel⟩
  exact ⟨_, rfl, _, _, _, [], _, [], hW', trodAll_mk1 (shut_bool Try.underlying4 _), (trodAll_cons_mk (Below.trod laidOut (by kernel_rfl) (of_decide_eq_true (by kernel_rfl)) k0 bel lt0) trodAll_mk0), rfl, bel.frame _, fun h => by cases h⟩

set_option maxRecDepth 100000 in
theorem lifted (os : Os) (started : os.Started) (H : Type) (enc : TypeId × Value → H) (F : Stop.Interp) :
    ReturnsInHanded {} Try.checked os 4 .any ((Rows.OpenSpec.upto Rows.crcPiecesSpec).pre6 enc Try.prog Try.f4 Rows.crcPiecesUptoRow.domain false) (((Rows.OpenSpec.upto Rows.crcPiecesSpec).at F).post enc Try.prog Try.f4 false true false false) := by
  refine returnsInHanded_of_cond (C := Try.checked) (s := Rows.OpenSpec.upto Rows.crcPiecesSpec) (k := Rows.uptoSmall) rfl own started (by kernel_rfl) Try.func4
    (OpenSpec.witness (enc := enc) (C := Try.checked) (s := Rows.OpenSpec.upto Rows.crcPiecesSpec) (k := Rows.uptoSmall) rfl false ⟨#[], #[.slice none 0 0], []⟩ 8 (by kernel_rfl) (by kernel_rfl) (by kernel_rfl)
      (x := ([.nil], [], [])) (by kernel_rfl) rfl (by kernel_rfl)) ?_
  intro W base args ds gs before hval hW _ hk _
  exact contract H enc W base args ds gs before hval hW hk

theorem proved : Rows.CrcPiecesUptoSaid :=
  OpenClaim.holds_of_cond 4 Try.f4 rfl rfl rfl rfl rfl rfl rfl ⟨rfl, rfl, rfl, rfl, rfl⟩ rfl rfl rfl rfl rfl (by kernel_rfl) Try.func4 (by kernel_rfl)
    (of_decide_eq_true (by kernel_rfl)) (by unfold Func.isWrapper; first | (rw [if_pos (by decide +kernel)]; kernel_rfl) | (rw [if_neg (by decide +kernel)]; exact ⟨rfl, rfl⟩))
    (fun os started H enc _ F => lifted os started H enc F)
end Go.Proofs.Ytihlnchmgcmdiaa.crcPieces
namespace Go.Proofs.Ytihlnchmgcmdiaa
theorem crcPieces_holds : Rows.CrcPiecesUptoSaid := crcPieces.proved
#print axioms crcPieces_holds
end Go.Proofs.Ytihlnchmgcmdiaa
