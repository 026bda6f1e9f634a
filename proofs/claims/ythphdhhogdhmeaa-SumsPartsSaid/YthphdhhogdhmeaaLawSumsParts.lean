/- The law of the sums, of any instances and requests: the row. No condition. -/
import Derived.Test.YthphdhhogdhmeaaRows
import Derived.Test.YthphdhhogdhmeaaS7
import Derived.Test.YthphdhhogdhmeaaFit
import Derived.WalkKit
import Derived.ProofKit
import Derived.OpenShut
import Derived.ShutString
import Derived.ChangeOld
import Derived.Below
import Derived.SizedLaws
import Derived.Test.YthphdhhogdhmeaaWSized
namespace Go.Proofs.Ythphdhhogdhmeaa.sumsParts
open Go.ChangeShapes Go.WideShapes Go.ChangeAt Go.RowKit
open Go.ChangeMaps (open_string shut_string)
open Go.Proofs.Ythphdhhogdhmeaa.GA Go.Proofs.YthphdhhogdhmeaaW.PrintWords Go.Proofs.YthphdhhogdhmeaaW.PrintFit
set_option linter.unusedVariables false
theorem own : ownKnob Try.prog.godebug = none := by kernel_rfl
theorem laidOut : laidOutB Try.prog = true := by kernel_rfl
theorem u32_nn {n : Int} (h : (Lit.int .u32 n).wf = true) : 0 ≤ n := by
  simp [Lit.wf] at h
  have hm : IntKind.u32.min = 0 := rfl
  omega
theorem fits29 : Fits Try.prog 29 k29 (fun x => 0 ≤ x.f11) := by
  refine fits_struct Try.underlying29 (by kernel_rfl) (from_cons rfl (fits_int (k := .u64) Try.underlying27 (by kernel_rfl)) (from_cons rfl (fits_int (k := .u64) Try.underlying27 (by kernel_rfl)) (from_cons rfl (fits_int (k := .i64) Try.underlying3 (by kernel_rfl)) (from_cons rfl (fits_int (k := .i64) Try.underlying2 (by kernel_rfl)) (from_cons rfl (fits_bool Try.underlying4 (by kernel_rfl)) (from_cons rfl (fits_int (k := .u8) Try.underlying5 (by kernel_rfl)) (from_cons rfl (fits_int (k := .u64) Try.underlying27 (by kernel_rfl)) (from_cons rfl (fits_bool Try.underlying4 (by kernel_rfl)) (from_cons rfl (fits_int (k := .u64) Try.underlying27 (by kernel_rfl)) (from_cons rfl (fits_bool Try.underlying4 (by kernel_rfl)) (from_cons rfl (fits_bool Try.underlying4 (by kernel_rfl)) (from_last rfl (fits_int (k := .u32) Try.underlying26 (by kernel_rfl)))))))))))))) ?_
  intro v h
  exact ⟨⟨v.1, v.2.1, v.2.2.1, v.2.2.2.1, v.2.2.2.2.1, v.2.2.2.2.2.1, v.2.2.2.2.2.2.1, v.2.2.2.2.2.2.2.1, v.2.2.2.2.2.2.2.2.1, v.2.2.2.2.2.2.2.2.2.1, v.2.2.2.2.2.2.2.2.2.2.1, v.2.2.2.2.2.2.2.2.2.2.2⟩, rfl, u32_nn h.2.2.2.2.2.2.2.2.2.2.2⟩
theorem fits31 : Fits Try.prog 31 k31 (fun _ => True) := by
  refine fits_struct Try.underlying31 (by kernel_rfl) (from_cons rfl (fits_int (k := .u8) Try.underlying5 (by kernel_rfl)) (from_cons rfl (fits_int (k := .u64) Try.underlying27 (by kernel_rfl)) (from_cons rfl (fits_int (k := .i64) Try.underlying3 (by kernel_rfl)) (from_cons rfl (fits_bool Try.underlying4 (by kernel_rfl)) (from_last rfl (fits_int (k := .u64) Try.underlying27 (by kernel_rfl))))))) ?_
  intro v h
  exact ⟨⟨v.1, v.2.1, v.2.2.1, v.2.2.2.1, v.2.2.2.2⟩, rfl, trivial⟩
theorem fits33 : Fits Try.prog 33 k33 (fun x => 0 ≤ x.f4) := by
  refine fits_struct Try.underlying33 (by kernel_rfl) (from_cons rfl fits31 (from_cons rfl (fits_int (k := .u64) Try.underlying27 (by kernel_rfl)) (from_cons rfl (fits_int (k := .i64) Try.underlying2 (by kernel_rfl)) (from_cons rfl (fits_bool Try.underlying4 (by kernel_rfl)) (from_last rfl (fits_int (k := .u32) Try.underlying26 (by kernel_rfl))))))) ?_
  intro v h
  exact ⟨⟨v.1, v.2.1, v.2.2.1, v.2.2.2.1, v.2.2.2.2⟩, rfl, u32_nn h.2.2.2.2⟩
set_option maxRecDepth 100000 in
set_option maxHeartbeats 4000000 in
theorem lifted (os : Os) (started : os.Started) (H : Type) (enc : TypeId × Value → H) :
    ReturnsInHanded {} Try.checked os 3 .any (Rows.sumsPartsSpec.pre6 enc Try.prog Try.f3 Rows.sumsPartsRow.domain false) (Rows.sumsPartsSpec.post enc Try.prog Try.f3 false true false false) := by
  refine returnsInHanded_of_change_sized (C := Try.checked) own started (by kernel_rfl) Try.func3
    (ChangeSpec.witness6 (enc := enc) (C := Try.checked) false ⟨#[], #[.slice none 0 0, .slice none 0 0], []⟩ 8 (by kernel_rfl) (by kernel_rfl) (by kernel_rfl) (by kernel_rfl)) ?_
  intro W base args ds gs before hval0 hW hcnd hsz0 _
  have hval : ∀ (j : Nat) t v, Try.f3.params[j]? = some t → args[j]? = some v → Value.okWide Try.prog W .any base t v := hval0
  have hW' := hW
  obtain ⟨p, q, hA0, hV, rfl, hfz, hnd⟩ := hW
  have hA : DataW.TrodAll enc Try.prog W 0 (fun _ => true) true Try.f3.params.toList args.toList ds p := hA0
  rw [Try.params3] at hA hval
  obtain ⟨v0, vs0, d0, ds0, p0, q0, hargs, rfl, rfl, h0, r0⟩ := trodAll_cons hA
  obtain ⟨v1, vs1, d1, ds1, p1, q1, rfl, rfl, rfl, h1, r1⟩ := trodAll_cons r0
  obtain ⟨rfl, rfl, rfl⟩ := trodAll_nil r1
  obtain rfl : args = #[v0, v1] := by cases args; simp_all
  obtain ⟨rfl, rfl⟩ := trodVars_none hV
  have k0 := h0
  have lt0 : ∀ x ∈ p0, x.block < W.heap.size := by obtain ⟨m, hm⟩ := k0; exact DataW.trod_lt m _ _ _ hm
  have k1 := h1
  have lt1 : ∀ x ∈ p1, x.block < W.heap.size := by obtain ⟨m, hm⟩ := k1; exact DataW.trod_lt m _ _ _ hm
  obtain ⟨a0, len0, cap0, rfl⟩ := okWide_slice Try.underlying22 (hval 0 22 v0 rfl rfl)
  obtain ⟨l0, ⟨A0, c0, hcs0, hc0, hr0⟩, ok0⟩ : ∃ l, (Kd.slice 29 k29).K W l [.slice a0 len0 cap0] ∧ (l.length ≤ maxLen ∧ ∀ y ∈ l, 0 ≤ y.f11) := by
    obtain ⟨fuel, hf⟩ := h0
    exact slice_K Try.underlying22 fits29 hf
  obtain ⟨rfl, rfl, rfl⟩ : a0 = A0 ∧ len0 = l0.length ∧ cap0 = c0 := by simpa using hcs0
  obtain ⟨a1, len1, cap1, rfl⟩ := okWide_slice Try.underlying23 (hval 1 23 v1 rfl rfl)
  obtain ⟨l1, ⟨A1, c1, hcs1, hc1, hr1⟩, ok1⟩ : ∃ l, (Kd.slice 33 k33).K W l [.slice a1 len1 cap1] ∧ (l.length ≤ maxLen ∧ ∀ y ∈ l, 0 ≤ y.f4) := by
    obtain ⟨fuel, hf⟩ := h1
    exact slice_K Try.underlying23 fits33 hf
  obtain ⟨rfl, rfl, rfl⟩ : a1 = A1 ∧ len1 = l1.length ∧ cap1 = c1 := by simpa using hcs1
  clear hA0 hval0 hsz0
  refine (SumsParts.calls a0 cap0 l0 a1 cap1 l1 W hr0 hc0 hr1 ok0.2 ok1.2).mono ?_
  rintro e W' ⟨rfl, bel⟩
  exact ⟨_, rfl, _, _, _, [], _, [], hW', trodAll_mk1 (shut_bool Try.underlying4 _), (trodAll_cons_mk (Below.trod laidOut (by kernel_rfl) (of_decide_eq_true (by kernel_rfl)) k0 bel lt0) (trodAll_cons_mk (Below.trod laidOut (by kernel_rfl) (of_decide_eq_true (by kernel_rfl)) k1 bel lt1) trodAll_mk0)), rfl, bel.frame _, fun h => by cases h⟩
theorem over : Rows.sumsPartsRow.holds Try.pinned (OpenSpec.ofChange Rows.sumsPartsSpec) :=
  OpenClaim.holds_of_wide 3 Try.f3 rfl rfl rfl rfl rfl rfl rfl ⟨rfl, rfl, rfl, rfl, rfl⟩ rfl rfl rfl rfl rfl (by kernel_rfl) Try.func3 (by kernel_rfl)
    (of_decide_eq_true (by kernel_rfl)) (by unfold Func.isWrapper; first | (rw [if_pos (by decide +kernel)]; kernel_rfl) | (rw [if_neg (by decide +kernel)]; exact ⟨rfl, rfl⟩))
    (fun os started H enc _ => lifted os started H enc)
theorem proved : Rows.SumsPartsSaid := over
end Go.Proofs.Ythphdhhogdhmeaa.sumsParts
namespace Go.Proofs.Ythphdhhogdhmeaa
/-- The row, under a short name, for the claim. -/
theorem sumsParts_holds : Rows.SumsPartsSaid := sumsParts.proved
end Go.Proofs.Ythphdhhogdhmeaa
