/- The row of CloudNil: of none, and of a zero one, there is nothing: the walk and the plain law, joined. No condition but each theorem's own. -/
import Derived.Test.YtfhopjigdkjnoaaRows
import Derived.Test.YtfhopjigdkjnoaaFit
import Derived.Test.YtfhopjigdkjnoaaK31
import Derived.Test.YtfhopjigdkjnoaaK32
import Derived.WalkKit
import Derived.ProofKit
import Derived.OpenShut
import Derived.ShutString
import Derived.ChangeOld
import Derived.Below
import Derived.SizedLaws
import Derived.Test.YtfhopjigdkjnoaaWSized
namespace Go.Proofs.Ytfhopjigdkjnoaa.cloudNil
open Go.ChangeShapes Go.WideShapes Go.ChangeAt Go.RowKit
open Go.ChangeMaps (open_string shut_string)
open Go.Proofs.Ytfhopjigdkjnoaa.GA Go.Proofs.YtfhopjigdkjnoaaW.PrintWords Go.Proofs.YtfhopjigdkjnoaaW.PrintFit
set_option linter.unusedVariables false
theorem own : ownKnob Try.prog.godebug = none := by kernel_rfl
theorem laidOut : laidOutB Try.prog = true := by kernel_rfl
theorem fits27 : Fits Try.prog 27 k27 (fun x => (Lit.int .u64 x.f1).wf = true ∧ (Lit.int .u64 x.f4).wf = true) :=
  fits_struct Try.underlying27 (by kernel_rfl) (from_cons rfl (fits_int (k := .u8) Try.underlying5 (by kernel_rfl)) (from_cons rfl (fits_int (k := .u64) Try.underlying22 (by kernel_rfl)) (from_cons rfl (fits_int (k := .i64) Try.underlying3 (by kernel_rfl)) (from_cons rfl (fits_bool Try.underlying4 (by kernel_rfl)) (from_last rfl (fits_int (k := .u64) Try.underlying22 (by kernel_rfl))))))) (fun v h => ⟨⟨v.1, v.2.1, v.2.2.1, v.2.2.2.1, v.2.2.2.2⟩, rfl, h.2.1, h.2.2.2.2⟩)
theorem fits31 : Fits Try.prog 31 k31 (fun x => (Lit.int .u8 x.f0).wf = true) :=
  fits_struct Try.underlying31 (by kernel_rfl) (from_cons rfl (fits_int (k := .u8) Try.underlying5 (by kernel_rfl)) (from_cons rfl (fits_int (k := .i64) Try.underlying3 (by kernel_rfl)) (from_cons rfl (fits_int (k := .i64) Try.underlying2 (by kernel_rfl)) (from_cons rfl (fits_int (k := .i64) Try.underlying2 (by kernel_rfl)) (from_last rfl (fits_int (k := .u64) Try.underlying22 (by kernel_rfl))))))) (fun v h => ⟨⟨v.1, v.2.1, v.2.2.1, v.2.2.2.1, v.2.2.2.2⟩, rfl, h.1⟩)
theorem fits34 : Fits Try.prog 34 k34 deedOk :=
  fits_struct Try.underlying34 (by kernel_rfl) (from_cons rfl (fits_bool Try.underlying4 (by kernel_rfl)) (from_cons rfl fits27 (from_last rfl fits31))) (fun v h => ⟨⟨v.1, v.2.1, v.2.2⟩, rfl, h.2.1.1, h.2.1.2, h.2.2⟩)
theorem fits23 : Fits Try.prog 23 (Kd.slice 34 k34) (fun l => l.length ≤ maxLen ∧ ∀ y ∈ l, deedOk y) :=
  fits_slice Try.underlying23 (by kernel_rfl) fits34
theorem wf_u8 {n : Int} (h : (Lit.int .u8 n).wf = true) : 0 ≤ n ∧ n < 256 := by
  simp [Lit.wf, IntKind.min, IntKind.max, IntKind.signed, IntKind.bits] at h
  omega
theorem wf_u64 {n : Int} (h : (Lit.int .u64 n).wf = true) : 0 ≤ n ∧ n < 18446744073709551616 := by
  simp [Lit.wf, IntKind.min, IntKind.max, IntKind.signed, IntKind.bits] at h
  omega
set_option maxRecDepth 100000 in
set_option maxHeartbeats 4000000 in
theorem lifted (os : Os) (started : os.Started) (H : Type) (enc : TypeId × Value → H) :
    ReturnsInHanded {} Try.checked os 5 .any (Rows.cloudNilSpec.pre6 enc Try.prog Try.f5 Rows.cloudNilRow.domain false) (Rows.cloudNilSpec.post enc Try.prog Try.f5 false true false false) := by
  refine returnsInHanded_of_change_sized (C := Try.checked) own started (by kernel_rfl) Try.func5
    (ChangeSpec.witness6 (enc := enc) (C := Try.checked) false ⟨#[], #[.agg #[.int .u8 0, .int .u64 0, .int .i64 0, .bool false, .int .u64 0], .agg #[.int .u8 0, .int .i64 0, .int .i64 0, .int .i64 0, .int .u64 0], .bool false], []⟩ 8 (by kernel_rfl) (by kernel_rfl) (by kernel_rfl) (by kernel_rfl)) ?_
  intro W base args ds gs before hval0 hW hcnd hsz0 _
  have hval : ∀ (j : Nat) t v, Try.f5.params[j]? = some t → args[j]? = some v → Value.okWide Try.prog W .any base t v := hval0
  have hW' := hW
  obtain ⟨p, q, hA0, hV, rfl, hfz, hnd⟩ := hW
  have hA : DataW.TrodAll enc Try.prog W 0 (fun _ => true) true Try.f5.params.toList args.toList ds p := hA0
  rw [Try.params5] at hA hval
  obtain ⟨v0, vs0, d0, ds0, p0, q0, hargs, rfl, rfl, h0, r0⟩ := trodAll_cons hA
  obtain ⟨v1, vs1, d1, ds1, p1, q1, rfl, rfl, rfl, h1, r1⟩ := trodAll_cons r0
  obtain ⟨v2, vs2, d2, ds2, p2, q2, rfl, rfl, rfl, h2, r2⟩ := trodAll_cons r1
  obtain ⟨rfl, rfl, rfl⟩ := trodAll_nil r2
  obtain rfl : args = #[v0, v1, v2] := by cases args; simp_all
  obtain ⟨rfl, rfl⟩ := trodVars_none hV
  have k0 := h0
  have lt0 : ∀ x ∈ p0, x.block < W.heap.size := by obtain ⟨m, hm⟩ := k0; exact DataW.trod_lt m _ _ _ hm
  obtain ⟨cs0, rfl, _⟩ := okWide_struct Try.underlying27 (hval 0 27 v0 rfl rfl)
  obtain ⟨x0, hcs0⟩ : ∃ x0 : S27, cs0 = #[.int .u8 x0.f0, .int .u64 x0.f1, .int .i64 x0.f2, .bool x0.f3, .int .u64 x0.f4] := by
    obtain ⟨fuel, hf⟩ := h0
    obtain ⟨v, hK, _⟩ := fits27.out hf
    refine ⟨v, ?_⟩
    have e := k27_open hK
    obtain ⟨cs0⟩ := cs0
    have e1' : cs0 = _ := e
    rw [e1']
  subst hcs0
  have k1 := h1
  have lt1 : ∀ x ∈ p1, x.block < W.heap.size := by obtain ⟨m, hm⟩ := k1; exact DataW.trod_lt m _ _ _ hm
  obtain ⟨cs1, rfl, _⟩ := okWide_struct Try.underlying31 (hval 1 31 v1 rfl rfl)
  obtain ⟨x1, hcs1⟩ : ∃ x1 : S31, cs1 = #[.int .u8 x1.f0, .int .i64 x1.f1, .int .i64 x1.f2, .int .i64 x1.f3, .int .u64 x1.f4] := by
    obtain ⟨fuel, hf⟩ := h1
    obtain ⟨v, hK, _⟩ := fits31.out hf
    refine ⟨v, ?_⟩
    have e := k31_open hK
    obtain ⟨cs1⟩ := cs1
    have e1' : cs1 = _ := e
    rw [e1']
  subst hcs1
  obtain ⟨a2, rfl, rfl, rfl⟩ := open_bool Try.underlying4 (hval 2 4 v2 rfl rfl) h2
  clear hA0 hval0 hsz0
  refine (CloudNil.calls x0 x1.f0 x1.f1 x1.f2 x1.f3 x1.f4 a2 W).mono ?_
  rintro e W' ⟨rfl, bel⟩
  exact ⟨_, rfl, _, _, _, [], _, [], hW', trodAll_mk1 (shut_bool Try.underlying4 _), (trodAll_cons_mk (Below.trod laidOut (by kernel_rfl) (of_decide_eq_true (by kernel_rfl)) k0 bel lt0) (trodAll_cons_mk (Below.trod laidOut (by kernel_rfl) (of_decide_eq_true (by kernel_rfl)) k1 bel lt1) (trodAll_cons_mk (shut_bool Try.underlying4 _) trodAll_mk0))), rfl, bel.frame _, fun h => by cases h⟩
theorem over : Rows.cloudNilRow.holds Try.pinned (OpenSpec.ofChange Rows.cloudNilSpec) :=
  OpenClaim.holds_of_wide 5 Try.f5 rfl rfl rfl rfl rfl rfl rfl ⟨rfl, rfl, rfl, rfl, rfl⟩ rfl rfl rfl rfl rfl (by kernel_rfl) Try.func5 (by kernel_rfl)
    (of_decide_eq_true (by kernel_rfl)) (by unfold Func.isWrapper; first | (rw [if_pos (by decide +kernel)]; kernel_rfl) | (rw [if_neg (by decide +kernel)]; exact ⟨rfl, rfl⟩))
    (fun os started H enc _ => lifted os started H enc)
theorem proved : Rows.CloudNilSaid := over
#print axioms proved
end Go.Proofs.Ytfhopjigdkjnoaa.cloudNil
namespace Go.Proofs.Ytfhopjigdkjnoaa
/-- The row, under a short name, for the claim. -/
theorem cloudNil_holds : Rows.CloudNilSaid := cloudNil.proved
end Go.Proofs.Ytfhopjigdkjnoaa
