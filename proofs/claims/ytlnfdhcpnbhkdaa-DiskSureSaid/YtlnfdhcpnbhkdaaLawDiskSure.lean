/- The row of DiskSure: a block to which nothing was asked since the last Flush is in the morning what it was: the walk and the plain law, joined. No condition but each theorem's own. -/
import Derived.Test.YtlnfdhcpnbhkdaaRows
import Derived.Test.YtlnfdhcpnbhkdaaFit
import Derived.Test.YtlnfdhcpnbhkdaaD18
import Derived.WalkKit
import Derived.ProofKit
import Derived.OpenShut
import Derived.ShutString
import Derived.ChangeOld
import Derived.Below
import Derived.SizedLaws
import Derived.Test.YtlnfdhcpnbhkdaaWSized
namespace Go.Proofs.Ytlnfdhcpnbhkdaa.diskSure
open Go.ChangeShapes Go.WideShapes Go.ChangeAt Go.RowKit
open Go.ChangeMaps (open_string shut_string)
open Go.Proofs.Ytlnfdhcpnbhkdaa.GA Go.Proofs.YtlnfdhcpnbhkdaaW.PrintWords Go.Proofs.YtlnfdhcpnbhkdaaW.PrintFit
set_option linter.unusedVariables false
theorem own : ownKnob Try.prog.godebug = none := by kernel_rfl
theorem laidOut : laidOutB Try.prog = true := by kernel_rfl
theorem fits31 : Fits Try.prog 31 kPut (fun x => (Lit.int .u8 x.1).wf = true ∧ x.2.length = 64) :=
  fits_struct Try.underlying31 (by kernel_rfl) (from_cons rfl (fits_int (k := .u8) Try.underlying5 (by kernel_rfl)) (from_last rfl (fits_array Try.underlying29 (by decide) (by kernel_rfl) (fits_int (k := .u8) Try.underlying5 (by kernel_rfl))))) (fun v h => ⟨v, rfl, h.1, h.2.1⟩)
theorem fits22 : Fits Try.prog 22 (Kd.slice 31 kPut) (fun l => l.length ≤ maxLen ∧ ∀ y ∈ l, (Lit.int .u8 y.1).wf = true ∧ y.2.length = 64) :=
  fits_slice Try.underlying22 (by kernel_rfl) fits31
theorem fits37 : Fits Try.prog 37 (Kd.slice 3 (Kd.int .i64)) (fun l => l.length ≤ maxLen ∧ ∀ y ∈ l, (Lit.int .i64 y).wf = true) :=
  fits_slice Try.underlying37 (by kernel_rfl) (fits_int (k := .i64) Try.underlying3 (by kernel_rfl))
theorem wf_u8 {n : Int} (h : (Lit.int .u8 n).wf = true) : 0 ≤ n ∧ n < 256 := by
  simp [Lit.wf, IntKind.min, IntKind.max, IntKind.signed, IntKind.bits] at h
  omega
theorem wf_i64 {n : Int} (h : (Lit.int .i64 n).wf = true) : -9223372036854775808 ≤ n ∧ n < 9223372036854775808 := by
  simp [Lit.wf, IntKind.min, IntKind.max, IntKind.signed, IntKind.bits] at h
  omega
set_option maxRecDepth 100000 in
set_option maxHeartbeats 4000000 in
theorem lifted (os : Os) (started : os.Started) (H : Type) (enc : TypeId × Value → H) :
    ReturnsInHanded {} Try.checked os 4 .any (Rows.diskSureSpec.pre6 enc Try.prog Try.f4 Rows.diskSureRow.domain false) (Rows.diskSureSpec.post enc Try.prog Try.f4 false true false false) := by
  refine returnsInHanded_of_change_sized (C := Try.checked) own started (by kernel_rfl) Try.func4
    (ChangeSpec.witness6 (enc := enc) (C := Try.checked) false ⟨#[], #[.slice none 0 0, .slice none 0 0, .int .u8 0, .slice none 0 0], []⟩ 8 (by kernel_rfl) (by kernel_rfl) (by kernel_rfl) (by kernel_rfl)) ?_
  intro W base args ds gs before hval0 hW hcnd hsz0 _
  have hval : ∀ (j : Nat) t v, Try.f4.params[j]? = some t → args[j]? = some v → Value.okWide Try.prog W .any base t v := hval0
  have hW' := hW
  obtain ⟨p, q, hA0, hV, rfl, hfz, hnd⟩ := hW
  have hA : DataW.TrodAll enc Try.prog W 0 (fun _ => true) true Try.f4.params.toList args.toList ds p := hA0
  rw [Try.params4] at hA hval
  obtain ⟨v0, vs0, d0, ds0, p0, q0, hargs, rfl, rfl, h0, r0⟩ := trodAll_cons hA
  obtain ⟨v1, vs1, d1, ds1, p1, q1, rfl, rfl, rfl, h1, r1⟩ := trodAll_cons r0
  obtain ⟨v2, vs2, d2, ds2, p2, q2, rfl, rfl, rfl, h2, r2⟩ := trodAll_cons r1
  obtain ⟨v3, vs3, d3, ds3, p3, q3, rfl, rfl, rfl, h3, r3⟩ := trodAll_cons r2
  obtain ⟨rfl, rfl, rfl⟩ := trodAll_nil r3
  obtain rfl : args = #[v0, v1, v2, v3] := by cases args; simp_all
  obtain ⟨rfl, rfl⟩ := trodVars_none hV
  obtain ⟨ad0, len0, cap0, rfl⟩ := okWide_slice Try.underlying22 (hval 0 22 v0 rfl rfl)
  have k0 := h0
  have lt0 : ∀ x ∈ p0, x.block < W.heap.size := by obtain ⟨m, hm⟩ := k0; exact DataW.trod_lt m _ _ _ hm
  obtain ⟨l0, hl0, hc0, hr0, w0⟩ : ∃ l, len0 = l.length ∧ l.length ≤ cap0 ∧ kPut.C W ad0 l.length l ∧ ∀ y ∈ l, (Lit.int .u8 y.1).wf = true ∧ y.2.length = 64 := by
    obtain ⟨fuel, hf⟩ := h0
    obtain ⟨l, ⟨A, c, hcs, hlc, hC⟩, _, hok⟩ := fits22.out hf
    have e : Value.slice ad0 len0 cap0 = .slice A l.length c := by
      have e2 : [Value.slice ad0 len0 cap0] = [.slice A l.length c] := hcs
      exact List.head_eq_of_cons_eq e2
    injection e with e1 e2 e3
    subst e1 e2 e3
    exact ⟨l, rfl, hlc, hC, hok⟩
  subst hl0
  obtain ⟨ad1, len1, cap1, rfl⟩ := okWide_slice Try.underlying22 (hval 1 22 v1 rfl rfl)
  have k1 := h1
  have lt1 : ∀ x ∈ p1, x.block < W.heap.size := by obtain ⟨m, hm⟩ := k1; exact DataW.trod_lt m _ _ _ hm
  obtain ⟨l1, hl1, hc1, hr1, w1⟩ : ∃ l, len1 = l.length ∧ l.length ≤ cap1 ∧ kPut.C W ad1 l.length l ∧ ∀ y ∈ l, (Lit.int .u8 y.1).wf = true ∧ y.2.length = 64 := by
    obtain ⟨fuel, hf⟩ := h1
    obtain ⟨l, ⟨A, c, hcs, hlc, hC⟩, _, hok⟩ := fits22.out hf
    have e : Value.slice ad1 len1 cap1 = .slice A l.length c := by
      have e2 : [Value.slice ad1 len1 cap1] = [.slice A l.length c] := hcs
      exact List.head_eq_of_cons_eq e2
    injection e with e1 e2 e3
    subst e1 e2 e3
    exact ⟨l, rfl, hlc, hC, hok⟩
  subst hl1
  obtain ⟨a2, rfl, rfl, rfl, w2⟩ := open_int Try.underlying5 (hval 2 5 v2 rfl rfl) h2
  obtain ⟨ad3, len3, cap3, rfl⟩ := okWide_slice Try.underlying37 (hval 3 37 v3 rfl rfl)
  have k3 := h3
  have lt3 : ∀ x ∈ p3, x.block < W.heap.size := by obtain ⟨m, hm⟩ := k3; exact DataW.trod_lt m _ _ _ hm
  obtain ⟨l3, hl3, hc3, hr3, w3⟩ : ∃ l, len3 = l.length ∧ l.length ≤ cap3 ∧ (Kd.int .i64).C W ad3 l.length l ∧ ∀ y ∈ l, (Lit.int .i64 y).wf = true := by
    obtain ⟨fuel, hf⟩ := h3
    obtain ⟨l, ⟨A, c, hcs, hlc, hC⟩, _, hok⟩ := fits37.out hf
    have e : Value.slice ad3 len3 cap3 = .slice A l.length c := by
      have e2 : [Value.slice ad3 len3 cap3] = [.slice A l.length c] := hcs
      exact List.head_eq_of_cons_eq e2
    injection e with e1 e2 e3
    subst e1 e2 e3
    exact ⟨l, rfl, hlc, hC, hok⟩
  subst hl3
  clear hA0 hval0 hsz0
  refine (diskSure.calls W _ _ l0 _ _ l1 a2 _ _ l3 hr0 (fun x hx => wf_u8 (w0 x hx).1) hr1 (fun x hx => wf_u8 (w1 x hx).1) (wf_u8 w2).1 (wf_u8 w2).2 hr3).mono ?_
  rintro e W' ⟨rfl, bel⟩
  exact ⟨_, rfl, _, _, _, [], _, [], hW', trodAll_mk1 (shut_bool Try.underlying4 _), (trodAll_cons_mk (Below.trod laidOut (by kernel_rfl) (of_decide_eq_true (by kernel_rfl)) k0 bel lt0) (trodAll_cons_mk (Below.trod laidOut (by kernel_rfl) (of_decide_eq_true (by kernel_rfl)) k1 bel lt1) (trodAll_cons_mk (shut_int Try.underlying5 w2) (trodAll_cons_mk (Below.trod laidOut (by kernel_rfl) (of_decide_eq_true (by kernel_rfl)) k3 bel lt3) trodAll_mk0)))), rfl, bel.frame _, fun h => by cases h⟩
theorem over : Rows.diskSureRow.holds Try.pinned (OpenSpec.ofChange Rows.diskSureSpec) :=
  OpenClaim.holds_of_wide 4 Try.f4 rfl rfl rfl rfl rfl rfl rfl ⟨rfl, rfl, rfl, rfl, rfl⟩ rfl rfl rfl rfl rfl (by kernel_rfl) Try.func4 (by kernel_rfl)
    (of_decide_eq_true (by kernel_rfl)) (by unfold Func.isWrapper; first | (rw [if_pos (by decide +kernel)]; kernel_rfl) | (rw [if_neg (by decide +kernel)]; exact ⟨rfl, rfl⟩))
    (fun os started H enc _ => lifted os started H enc)
theorem proved : Rows.DiskSureSaid := over
#print axioms proved
end Go.Proofs.Ytlnfdhcpnbhkdaa.diskSure
namespace Go.Proofs.Ytlnfdhcpnbhkdaa
/-- The row, under a short name, for the claim. -/
theorem diskSure_holds : Rows.DiskSureSaid := diskSure.proved
end Go.Proofs.Ytlnfdhcpnbhkdaa
