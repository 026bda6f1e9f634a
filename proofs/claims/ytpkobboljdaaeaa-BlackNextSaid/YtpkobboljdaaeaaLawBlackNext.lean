/- Contracts: each call of a Go function answers what the Lean function of its name says; a law of the set follows. No condition but each theorem's own. Written by a program of this session's out of the translation, with the functions proved by hand let in. -/
import Derived.Test.YtpkobboljdaaeaaRows
import Derived.Test.YtpkobboljdaaeaaGAx5
import Derived.Test.YtpkobboljdaaeaaFit
import Derived.Test.YtpkobboljdaaeaaPureBlackNext
import Derived.WalkKit
import Derived.ProofKit
import Derived.OpenShut
import Derived.ShutString
import Derived.ChangeOld
import Derived.Below
import Derived.SizedLaws
import Derived.Test.YtpkobboljdaaeaaWSized
namespace Go.Proofs.Ytpkobboljdaaeaa.blackNext
open Go.ChangeShapes Go.WideShapes Go.ChangeAt Go.RowKit
open Go.ChangeMaps (open_string shut_string)
open Go.Proofs.Ytpkobboljdaaeaa.GA Go.Proofs.YtpkobboljdaaeaaW.PrintWords Go.Proofs.YtpkobboljdaaeaaW.PrintFit
set_option linter.unusedVariables false
theorem own : ownKnob Try.prog.godebug = none := by kernel_rfl
theorem laidOut : laidOutB Try.prog = true := by kernel_rfl
def IsRow (k : IntKind) (w : World) (a : Option Addr) (len cap : Nat) (zs : List Int) : Prop :=
  (a = none ∧ len = 0 ∧ cap = 0 ∧ zs = []) ∨
  ∃ x, a = some x ∧ len ≤ cap ∧ cap ≤ maxLen ∧ zs.length = cap ∧ (∀ i, i < zs.length → w.cell? (x.add i) = some (.int k (zs.getD i 0))) ∧ ∀ n ∈ zs, (Lit.int k n).wf = true
theorem fits31 : Fits Try.prog 31 k31 ok31 := by
  refine fits_struct Try.underlying31 (by kernel_rfl) (from_cons rfl (fits_int (k := .i64) Try.underlying2 (by kernel_rfl)) (from_cons rfl (fits_int (k := .i64) Try.underlying2 (by kernel_rfl)) (from_last rfl (fits_int (k := .u64) Try.underlying23 (by kernel_rfl))))) ?_
  intro v h
  exact ⟨⟨v.1, v.2.1, v.2.2⟩, rfl, h⟩
theorem fits56 : Fits Try.prog 56 k56 ok56 := by
  refine fits_struct Try.underlying56 (by kernel_rfl) (from_cons rfl (fits_string Try.underlying9 (by kernel_rfl)) (from_cons rfl (fits_bool Try.underlying4 (by kernel_rfl)) (from_cons rfl (fits_int (k := .i64) Try.underlying2 (by kernel_rfl)) (from_last rfl (fits_int (k := .i64) Try.underlying2 (by kernel_rfl)))))) ?_
  intro v h
  exact ⟨⟨v.1, v.2.1, v.2.2.1, v.2.2.2⟩, rfl, h⟩
theorem fits75 : Fits Try.prog 75 k75 ok75 := by
  refine fits_struct Try.underlying75 (by kernel_rfl) (from_cons rfl (fits_int (k := .i64) Try.underlying2 (by kernel_rfl)) (from_last rfl (fits_int (k := .i64) Try.underlying2 (by kernel_rfl)))) ?_
  intro v h
  exact ⟨⟨v.1, v.2⟩, rfl, h⟩
theorem fits77 : Fits Try.prog 77 k77 ok77 := by
  refine fits_struct Try.underlying77 (by kernel_rfl) (from_cons rfl (fits_int (k := .u64) Try.underlying23 (by kernel_rfl)) (from_cons rfl (fits_int (k := .u64) Try.underlying23 (by kernel_rfl)) (from_last rfl (fits_int (k := .i64) Try.underlying2 (by kernel_rfl))))) ?_
  intro v h
  exact ⟨⟨v.1, v.2.1, v.2.2⟩, rfl, h⟩
theorem fits37 : Fits Try.prog 37 k37 ok37 := by
  refine fits_struct Try.underlying37 (by kernel_rfl) (from_cons rfl (fits_slice Try.underlying33 (by kernel_rfl) fits56) (from_cons rfl (fits_int (k := .u8) Try.underlying5 (by kernel_rfl)) (from_cons rfl (fits_int (k := .i64) Try.underlying2 (by kernel_rfl)) (from_cons rfl (fits_bool Try.underlying4 (by kernel_rfl)) (from_cons rfl (fits_int (k := .i64) Try.underlying2 (by kernel_rfl)) (from_cons rfl (fits_int (k := .i64) Try.underlying2 (by kernel_rfl)) (from_cons rfl (fits_int (k := .i64) Try.underlying2 (by kernel_rfl)) (from_cons rfl (fits_int (k := .i64) Try.underlying2 (by kernel_rfl)) (from_cons rfl (fits_int (k := .i64) Try.underlying2 (by kernel_rfl)) (from_cons rfl (fits_int (k := .i64) Try.underlying2 (by kernel_rfl)) (from_cons rfl (fits_int (k := .u64) Try.underlying23 (by kernel_rfl)) (from_cons rfl (fits_int (k := .u64) Try.underlying23 (by kernel_rfl)) (from_cons rfl (fits_int (k := .u64) Try.underlying23 (by kernel_rfl)) (from_cons rfl (fits_int (k := .u64) Try.underlying23 (by kernel_rfl)) (from_cons rfl (fits_int (k := .u64) Try.underlying23 (by kernel_rfl)) (from_cons rfl (fits_int (k := .u64) Try.underlying23 (by kernel_rfl)) (from_cons rfl (fits_bool Try.underlying4 (by kernel_rfl)) (from_cons rfl (fits_int (k := .i64) Try.underlying2 (by kernel_rfl)) (from_cons rfl (fits_slice Try.underlying34 (by kernel_rfl) fits75) (from_last rfl (fits_slice Try.underlying35 (by kernel_rfl) fits77))))))))))))))))))))) ?_
  intro v h
  exact ⟨⟨v.1, v.2.1, v.2.2.1, v.2.2.2.1, v.2.2.2.2.1, v.2.2.2.2.2.1, v.2.2.2.2.2.2.1, v.2.2.2.2.2.2.2.1, v.2.2.2.2.2.2.2.2.1, v.2.2.2.2.2.2.2.2.2.1, v.2.2.2.2.2.2.2.2.2.2.1, v.2.2.2.2.2.2.2.2.2.2.2.1, v.2.2.2.2.2.2.2.2.2.2.2.2.1, v.2.2.2.2.2.2.2.2.2.2.2.2.2.1, v.2.2.2.2.2.2.2.2.2.2.2.2.2.2.1, v.2.2.2.2.2.2.2.2.2.2.2.2.2.2.2.1, v.2.2.2.2.2.2.2.2.2.2.2.2.2.2.2.2.1, v.2.2.2.2.2.2.2.2.2.2.2.2.2.2.2.2.2.1, v.2.2.2.2.2.2.2.2.2.2.2.2.2.2.2.2.2.2.1, v.2.2.2.2.2.2.2.2.2.2.2.2.2.2.2.2.2.2.2⟩, rfl, h⟩
set_option maxRecDepth 100000 in
set_option maxHeartbeats 4000000 in
theorem lifted (os : Os) (started : os.Started) (H : Type) (enc : TypeId × Value → H) :
    ReturnsInHanded {} Try.checked os 4 .any (Rows.blackNextSpec.pre6 enc Try.prog Try.f4 Rows.blackNextRow.domain false) (Rows.blackNextSpec.post enc Try.prog Try.f4 false true false false) := by
  refine returnsInHanded_of_change_sized (C := Try.checked) own started (by kernel_rfl) Try.func4
    (ChangeSpec.witness6 (enc := enc) (C := Try.checked) false ⟨#[], #[.slice none 0 0, .int .u64 0, .int .u64 0], []⟩ 8 (by kernel_rfl) (by kernel_rfl) (by kernel_rfl) (by kernel_rfl)) ?_
  intro W base args ds gs before hval0 hW hcnd hsz0 _
  have hsz : (DataW.weightsEach Try.prog (Try.f4.params.toList ++ Rows.blackNextSpec.plain.varTypes Try.prog) (ds ++ gs)).all (· ≤ reachBytes) = true := hsz0
  have hval : ∀ (j : Nat) t v, Try.f4.params[j]? = some t → args[j]? = some v → Value.okWide Try.prog W .any base t v := hval0
  have hW' := hW
  obtain ⟨p, q, hA0, hV, rfl, hfz, hnd⟩ := hW
  have hA : DataW.TrodAll enc Try.prog W 0 (fun _ => true) true Try.f4.params.toList args.toList ds p := hA0
  rw [Try.params4] at hA hval hsz
  obtain ⟨v0, vs0, d0, ds0, p0, q0, hargs, rfl, rfl, h0, r0⟩ := trodAll_cons hA
  obtain ⟨v1, vs1, d1, ds1, p1, q1, rfl, rfl, rfl, h1, r1⟩ := trodAll_cons r0
  obtain ⟨v2, vs2, d2, ds2, p2, q2, rfl, rfl, rfl, h2, r2⟩ := trodAll_cons r1
  obtain ⟨rfl, rfl, rfl⟩ := trodAll_nil r2
  obtain rfl : args = #[v0, v1, v2] := by cases args; simp_all
  obtain ⟨rfl, rfl⟩ := trodVars_none hV
  obtain ⟨a0, len0, cap0, rfl⟩ := okWide_slice Try.underlying22 (hval 0 22 v0 rfl rfl)
  have k0 := h0
  have lt0 : ∀ x ∈ p0, x.block < W.heap.size := by obtain ⟨m, hm⟩ := k0; exact DataW.trod_lt m _ _ _ hm
  obtain ⟨l0, ⟨A0, c0, hcs0, hc0, hr0⟩, ok0⟩ : ∃ l, (Kd.slice 31 k31).K W l [.slice a0 len0 cap0] ∧ (l.length ≤ maxLen ∧ ∀ y ∈ l, ok31 y) := by
    obtain ⟨fuel, hf⟩ := h0
    exact slice_K Try.underlying22 fits31 hf
  obtain ⟨rfl, rfl, rfl⟩ : a0 = A0 ∧ len0 = l0.length ∧ cap0 = c0 := by simpa using hcs0
  obtain ⟨a1, rfl, rfl, rfl, w1⟩ := open_int Try.underlying23 (hval 1 23 v1 rfl rfl) h1
  obtain ⟨a2, rfl, rfl, rfl, w2⟩ := open_int Try.underlying23 (hval 2 23 v2 rfl rfl) h2
  clear hA0 hval0 hsz0 hsz
  obtain ⟨k, h⟩ := Pure.BlackNext l0 a1 a2 ok0 w1 w2
  refine (cohortlaw14_BlackNext.calls k _ _ l0 a1 a2 true W hr0 hc0 h).mono ?_
  rintro e W' ⟨rfl, bel⟩
  exact ⟨_, rfl, _, _, _, [], _, [], hW', trodAll_mk1 (shut_bool Try.underlying4 _), (trodAll_cons_mk (Below.trod laidOut (by kernel_rfl) (of_decide_eq_true (by kernel_rfl)) k0 bel lt0) (trodAll_cons_mk (shut_int Try.underlying23 w1) (trodAll_cons_mk (shut_int Try.underlying23 w2) trodAll_mk0))), rfl, bel.frame _, fun h => by cases h⟩
theorem over : Rows.blackNextRow.holds Try.pinned (OpenSpec.ofChange Rows.blackNextSpec) :=
  OpenClaim.holds_of_wide 4 Try.f4 rfl rfl rfl rfl rfl rfl rfl ⟨rfl, rfl, rfl, rfl, rfl⟩ rfl rfl rfl rfl rfl (by kernel_rfl) Try.func4 (by kernel_rfl)
    (of_decide_eq_true (by kernel_rfl)) (by unfold Func.isWrapper; first | (rw [if_pos (by decide +kernel)]; kernel_rfl) | (rw [if_neg (by decide +kernel)]; exact ⟨rfl, rfl⟩))
    (fun os started H enc _ => lifted os started H enc)
theorem proved : Rows.BlackNextSaid := over
#print axioms proved
end Go.Proofs.Ytpkobboljdaaeaa.blackNext
namespace Go.Proofs.Ytpkobboljdaaeaa
/-- The row, under a short name, for the claim. -/
theorem blackNext_holds : Rows.BlackNextSaid := blackNext.proved
end Go.Proofs.Ytpkobboljdaaeaa
