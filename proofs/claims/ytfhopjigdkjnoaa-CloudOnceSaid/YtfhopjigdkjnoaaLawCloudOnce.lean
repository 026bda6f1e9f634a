/- The row of CloudOnce: of one token there is at most one instance; what is gone stays gone: the walk and the plain law, joined. No condition but each theorem's own. -/
import Derived.Test.YtfhopjigdkjnoaaRows
import Derived.Test.YtfhopjigdkjnoaaFit
import Derived.Test.YtfhopjigdkjnoaaK34
import Derived.WalkKit
import Derived.ProofKit
import Derived.OpenShut
import Derived.ShutString
import Derived.ChangeOld
import Derived.Below
import Derived.SizedLaws
import Derived.Test.YtfhopjigdkjnoaaWSized
namespace Go.Proofs.Ytfhopjigdkjnoaa.cloudOnce
open Go.ChangeShapes Go.WideShapes Go.ChangeAt Go.RowKit
open Go.ChangeMaps (open_string shut_string)
open Go.Proofs.Ytfhopjigdkjnoaa.GA Go.Proofs.YtfhopjigdkjnoaaW.PrintWords Go.Proofs.YtfhopjigdkjnoaaW.PrintFit
set_option linter.unusedVariables false
theorem own : ownKnob Try.prog.godebug = none := by kernel_rfl
theorem laidOut : laidOutB Try.prog = true := by kernel_rfl
theorem fits27 : Fits Try.prog 27 k27 (fun x => (Lit.int .u64 x.f1).wf = true ∧ (Lit.int .u64 x.f4).wf = true) :=
  fits_struct Try.underlying27 (by kernel_rfl) (from_cons rfl (fits_int (k := .u8) Try.underlying5 (by kernel_rfl)) (from_cons rfl (fits_int (k := .u64) Try.underlying22 (by kernel_rfl)) (from_cons rfl (fits_int (k := .i64) Try.underlying3 (by kernel_rfl)) (from_cons rfl (fits_bool Try.underlying4 (by kernel_rfl)) (from_last rfl (fits_int (k := .u64) Try.underlying22 (by kernel_rfl))))))) (fun v h => ⟨⟨v.1, v.2.1, v.2.2.1, v.2.2.2.1, v.2.2.2.2⟩, rfl, h.2.1, h.2.2.2.2⟩)
theorem fits31 : Fits Try.prog 31 k31 (fun x => (Lit.int .u8 x.f0).wf = true) :=
  fits_struct Try.underlying31 (by kernel_rfl) (from_cons rfl (fits_int (k := .u8) Try.underlying5 (by kernel_rfl)) (from_cons rfl (fits_int (k := .i64) Try.underlying3 (by kernel_rfl)) (from_cons rfl (fits_int (k := .i64) Try.underlying2 (by kernel_rfl)) (from_cons rfl (fits_int (k := .i64) Try.underlying2 (by kernel_rfl)) (from_last rfl (fits_int (k := .u64) Try.underlying22 (by kernel_rfl))))))) (fun v h => ⟨⟨v.1, v.2.1, v.2.2.1, v.2.2.2.1, v.2.2.2.2⟩, rfl, h.1⟩)
theorem fits34 : Fits Try.prog 34 k34 deedOk :=
  fits_struct Try.underlying34 (by kernel_rfl) (from_cons rfl (fits_bool Try.underlying4 (by kernel_rfl)) (from_cons rfl fits27 (from_last rfl fits31))) (fun v h => ⟨⟨v.1, v.2.1, v.2.2⟩, rfl, h.2.1.1, h.2.1.2, h.2.2⟩)
theorem fits23 : Fits Try.prog 23 (Kd.slice 34 k34) (fun l => l.length ≤ maxLen ∧ ∀ y ∈ l, deedOk y) :=
  fits_slice Try.underlying23 (by kernel_rfl) fits34
theorem wf_u8 {n : Int} (h : (Lit.int .u8 n).wf = true) : 0 ≤ n ∧ n < 256 := by
  simp [Lit.wf, IntKind.min, IntKind.max, IntKind.signed, IntKind.bits] at h
  omega
theorem wf_u64 {n : Int} (h : (Lit.int .u64 n).wf = true) : 0 ≤ n ∧ n < 18446744073709551616 := by
  simp [Lit.wf, IntKind.min, IntKind.max, IntKind.signed, IntKind.bits] at h
  omega
set_option maxRecDepth 100000 in
set_option maxHeartbeats 4000000 in
theorem lifted (os : Os) (started : os.Started) (H : Type) (enc : TypeId × Value → H) :
    ReturnsInHanded {} Try.checked os 4 .any (Rows.cloudOnceSpec.pre6 enc Try.prog Try.f4 Rows.cloudOnceRow.domain false) (Rows.cloudOnceSpec.post enc Try.prog Try.f4 false true false false) := by
  refine returnsInHanded_of_change_sized (C := Try.checked) own started (by kernel_rfl) Try.func4
    (ChangeSpec.witness6 (enc := enc) (C := Try.checked) false ⟨#[], #[.slice none 0 0], []⟩ 8 (by kernel_rfl) (by kernel_rfl) (by kernel_rfl) (by kernel_rfl)) ?_
  intro W base args ds gs before hval0 hW hcnd hsz0 _
  have hval : ∀ (j : Nat) t v, Try.f4.params[j]? = some t → args[j]? = some v → Value.okWide Try.prog W .any base t v := hval0
  have hW' := hW
  obtain ⟨p, q, hA0, hV, rfl, hfz, hnd⟩ := hW
  have hA : DataW.TrodAll enc Try.prog W 0 (fun _ => true) true Try.f4.params.toList args.toList ds p := hA0
  rw [Try.params4] at hA hval
  obtain ⟨v0, vs0, d0, ds0, p0, q0, hargs, rfl, rfl, h0, r0⟩ := trodAll_cons hA
  obtain ⟨rfl, rfl, rfl⟩ := trodAll_nil r0
  obtain rfl : args = #[v0] := by cases args; simp_all
  obtain ⟨rfl, rfl⟩ := trodVars_none hV
  obtain ⟨ad0, len0, cap0, rfl⟩ := okWide_slice Try.underlying23 (hval 0 23 v0 rfl rfl)
  have k0 := h0
  have lt0 : ∀ x ∈ p0, x.block < W.heap.size := by obtain ⟨m, hm⟩ := k0; exact DataW.trod_lt m _ _ _ hm
  obtain ⟨l0, hl0, hc0, hr0, w0⟩ : ∃ l, len0 = l.length ∧ l.length ≤ cap0 ∧ k34.C W ad0 l.length l ∧ ∀ y ∈ l, deedOk y := by
    obtain ⟨fuel, hf⟩ := h0
    obtain ⟨l, ⟨A, c, hcs, hlc, hC⟩, _, hok⟩ := fits23.out hf
    have e : Value.slice ad0 len0 cap0 = .slice A l.length c := by
      have e2 : [Value.slice ad0 len0 cap0] = [.slice A l.length c] := hcs
      exact List.head_eq_of_cons_eq e2
    injection e with e1 e2 e3
    subst e1 e2 e3
    exact ⟨l, rfl, hlc, hC, hok⟩
  subst hl0
  clear hA0 hval0 hsz0
  refine (CloudOnce.calls _ _ l0 W hr0 hc0 w0).mono ?_
  rintro e W' ⟨rfl, bel⟩
  exact ⟨_, rfl, _, _, _, [], _, [], hW', trodAll_mk1 (shut_bool Try.underlying4 _), (trodAll_cons_mk (Below.trod laidOut (by kernel_rfl) (of_decide_eq_true (by kernel_rfl)) k0 bel lt0) trodAll_mk0), rfl, bel.frame _, fun h => by cases h⟩
theorem over : Rows.cloudOnceRow.holds Try.pinned (OpenSpec.ofChange Rows.cloudOnceSpec) :=
  OpenClaim.holds_of_wide 4 Try.f4 rfl rfl rfl rfl rfl rfl rfl ⟨rfl, rfl, rfl, rfl, rfl⟩ rfl rfl rfl rfl rfl (by kernel_rfl) Try.func4 (by kernel_rfl)
    (of_decide_eq_true (by kernel_rfl)) (by unfold Func.isWrapper; first | (rw [if_pos (by decide +kernel)]; kernel_rfl) | (rw [if_neg (by decide +kernel)]; exact ⟨rfl, rfl⟩))
    (fun os started H enc _ => lifted os started H enc)
theorem proved : Rows.CloudOnceSaid := over
#print axioms proved
end Go.Proofs.Ytfhopjigdkjnoaa.cloudOnce
namespace Go.Proofs.Ytfhopjigdkjnoaa
/-- The row, under a short name, for the claim. -/
theorem cloudOnce_holds : Rows.CloudOnceSaid := cloudOnce.proved
end Go.Proofs.Ytfhopjigdkjnoaa
