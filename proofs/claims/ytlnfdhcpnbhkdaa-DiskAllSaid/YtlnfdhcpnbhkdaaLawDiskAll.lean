/- The row of DiskAll: if every pick is Size, the morning reads what the evening read; if there is none, what the last Flush held; any other one holds of each half what was there ahead, or was asked: the walk and the plain law, joined. No condition but each theorem's own. -/
import Derived.Test.YtlnfdhcpnbhkdaaRows
import Derived.Test.YtlnfdhcpnbhkdaaFit
import Derived.Test.YtlnfdhcpnbhkdaaE24
import Derived.WalkKit
import Derived.ProofKit
import Derived.OpenShut
import Derived.ShutString
import Derived.ChangeOld
import Derived.Below
import Derived.SizedLaws
import Derived.Test.YtlnfdhcpnbhkdaaWSized
namespace Go.Proofs.Ytlnfdhcpnbhkdaa.diskAll
open Go.ChangeShapes Go.WideShapes Go.ChangeAt Go.RowKit
open Go.ChangeMaps (open_string shut_string)
open Go.Proofs.Ytlnfdhcpnbhkdaa.GA Go.Proofs.YtlnfdhcpnbhkdaaW.PrintWords Go.Proofs.YtlnfdhcpnbhkdaaW.PrintFit
set_option linter.unusedVariables false
theorem own : ownKnob Try.prog.godebug = none := by kernel_rfl
theorem laidOut : laidOutB Try.prog = true := by kernel_rfl
theorem fits31 : Fits Try.prog 31 kPut (fun x => (Lit.int .u8 x.1).wf = true ∧ x.2.length = 64) :=
  fits_struct Try.underlying31 (by kernel_rfl) (from_cons rfl (fits_int (k := .u8) Try.underlying5 (by kernel_rfl)) (from_last rfl (fits_array Try.underlying29 (by decide) (by kernel_rfl) (fits_int (k := .u8) Try.underlying5 (by kernel_rfl))))) (fun v h => ⟨v, rfl, h.1, h.2.1⟩)
theorem fits22 : Fits Try.prog 22 (Kd.slice 31 kPut) (fun l => l.length ≤ maxLen ∧ ∀ y ∈ l, (Lit.int .u8 y.1).wf = true ∧ y.2.length = 64) :=
  fits_slice Try.underlying22 (by kernel_rfl) fits31
theorem wf_u8 {n : Int} (h : (Lit.int .u8 n).wf = true) : 0 ≤ n ∧ n < 256 := by
  simp [Lit.wf, IntKind.min, IntKind.max, IntKind.signed, IntKind.bits] at h
  omega
theorem wf_i64 {n : Int} (h : (Lit.int .i64 n).wf = true) : -9223372036854775808 ≤ n ∧ n < 9223372036854775808 := by
  simp [Lit.wf, IntKind.min, IntKind.max, IntKind.signed, IntKind.bits] at h
  omega
set_option maxRecDepth 100000 in
set_option maxHeartbeats 4000000 in
theorem lifted (os : Os) (started : os.Started) (H : Type) (enc : TypeId × Value → H) :
    ReturnsInHanded {} Try.checked os 5 .any (Rows.diskAllSpec.pre6 enc Try.prog Try.f5 Rows.diskAllRow.domain false) (Rows.diskAllSpec.post enc Try.prog Try.f5 false true false false) := by
  refine returnsInHanded_of_change_sized (C := Try.checked) own started (by kernel_rfl) Try.func5
    (ChangeSpec.witness6 (enc := enc) (C := Try.checked) false ⟨#[], #[.slice none 0 0, .slice none 0 0], []⟩ 8 (by kernel_rfl) (by kernel_rfl) (by kernel_rfl) (by kernel_rfl)) ?_
  intro W base args ds gs before hval0 hW hcnd hsz0 _
  have hval : ∀ (j : Nat) t v, Try.f5.params[j]? = some t → args[j]? = some v → Value.okWide Try.prog W .any base t v := hval0
  have hW' := hW
  obtain ⟨p, q, hA0, hV, rfl, hfz, hnd⟩ := hW
  have hA : DataW.TrodAll enc Try.prog W 0 (fun _ => true) true Try.f5.params.toList args.toList ds p := hA0
  rw [Try.params5] at hA hval
  obtain ⟨v0, vs0, d0, ds0, p0, q0, hargs, rfl, rfl, h0, r0⟩ := trodAll_cons hA
  obtain ⟨v1, vs1, d1, ds1, p1, q1, rfl, rfl, rfl, h1, r1⟩ := trodAll_cons r0
  obtain ⟨rfl, rfl, rfl⟩ := trodAll_nil r1
  obtain rfl : args = #[v0, v1] := by cases args; simp_all
  obtain ⟨rfl, rfl⟩ := trodVars_none hV
  obtain ⟨ad0, len0, cap0, rfl⟩ := okWide_slice Try.underlying22 (hval 0 22 v0 rfl rfl)
  have k0 := h0
  have lt0 : ∀ x ∈ p0, x.block < W.heap.size := by obtain ⟨m, hm⟩ := k0; exact DataW.trod_lt m _ _ _ hm
  obtain ⟨l0, hl0, hc0, hr0, w0⟩ : ∃ l, len0 = l.length ∧ l.length ≤ cap0 ∧ kPut.C W ad0 l.length l ∧ ∀ y ∈ l, (Lit.int .u8 y.1).wf = true ∧ y.2.length = 64 := by
    obtain ⟨fuel, hf⟩ := h0
    obtain ⟨l, ⟨A, c, hcs, hlc, hC⟩, _, hok⟩ := fits22.out hf
    have e : Value.slice ad0 len0 cap0 = .slice A l.length c := by
      have e2 : [Value.slice ad0 len0 cap0] = [.slice A l.length c] := hcs
      exact List.head_eq_of_cons_eq e2
    injection e with e1 e2 e3
    subst e1 e2 e3
    exact ⟨l, rfl, hlc, hC, hok⟩
  subst hl0
  obtain ⟨ad1, len1, cap1, rfl⟩ := okWide_slice Try.underlying22 (hval 1 22 v1 rfl rfl)
  have k1 := h1
  have lt1 : ∀ x ∈ p1, x.block < W.heap.size := by obtain ⟨m, hm⟩ := k1; exact DataW.trod_lt m _ _ _ hm
  obtain ⟨l1, hl1, hc1, hr1, w1⟩ : ∃ l, len1 = l.length ∧ l.length ≤ cap1 ∧ kPut.C W ad1 l.length l ∧ ∀ y ∈ l, (Lit.int .u8 y.1).wf = true ∧ y.2.length = 64 := by
    obtain ⟨fuel, hf⟩ := h1
    obtain ⟨l, ⟨A, c, hcs, hlc, hC⟩, _, hok⟩ := fits22.out hf
    have e : Value.slice ad1 len1 cap1 = .slice A l.length c := by
      have e2 : [Value.slice ad1 len1 cap1] = [.slice A l.length c] := hcs
      exact List.head_eq_of_cons_eq e2
    injection e with e1 e2 e3
    subst e1 e2 e3
    exact ⟨l, rfl, hlc, hC, hok⟩
  subst hl1
  clear hA0 hval0 hsz0
  refine (E.diskAll.calls W _ _ l0 _ _ l1 hr0 (fun x hx => wf_u8 (w0 x hx).1) hr1 (fun x hx => wf_u8 (w1 x hx).1)).mono ?_
  rintro e W' ⟨rfl, bel⟩
  exact ⟨_, rfl, _, _, _, [], _, [], hW', trodAll_mk1 (shut_bool Try.underlying4 _), (trodAll_cons_mk (Below.trod laidOut (by kernel_rfl) (of_decide_eq_true (by kernel_rfl)) k0 bel lt0) (trodAll_cons_mk (Below.trod laidOut (by kernel_rfl) (of_decide_eq_true (by kernel_rfl)) k1 bel lt1) trodAll_mk0)), rfl, bel.frame _, fun h => by cases h⟩
theorem over : Rows.diskAllRow.holds Try.pinned (OpenSpec.ofChange Rows.diskAllSpec) :=
  OpenClaim.holds_of_wide 5 Try.f5 rfl rfl rfl rfl rfl rfl rfl ⟨rfl, rfl, rfl, rfl, rfl⟩ rfl rfl rfl rfl rfl (by kernel_rfl) Try.func5 (by kernel_rfl)
    (of_decide_eq_true (by kernel_rfl)) (by unfold Func.isWrapper; first | (rw [if_pos (by decide +kernel)]; kernel_rfl) | (rw [if_neg (by decide +kernel)]; exact ⟨rfl, rfl⟩))
    (fun os started H enc _ => lifted os started H enc)
theorem proved : Rows.DiskAllSaid := over
#print axioms proved
end Go.Proofs.Ytlnfdhcpnbhkdaa.diskAll
namespace Go.Proofs.Ytlnfdhcpnbhkdaa
/-- The row, under a short name, for the claim. -/
theorem diskAll_holds : Rows.DiskAllSaid := diskAll.proved
end Go.Proofs.Ytlnfdhcpnbhkdaa
