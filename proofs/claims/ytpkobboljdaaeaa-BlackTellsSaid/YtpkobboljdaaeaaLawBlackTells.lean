/- Contracts: each call of a Go function answers what the Lean function of its name says; a law of the set follows. No condition but each theorem's own. Written by a program of this session's out of the translation, with the functions proved by hand let in. -/
import Derived.Test.YtpkobboljdaaeaaRows
import Derived.Test.YtpkobboljdaaeaaGAx8
import Derived.Test.YtpkobboljdaaeaaFit
import Derived.Test.YtpkobboljdaaeaaPureBlackTells
import Derived.WalkKit
import Derived.ProofKit
import Derived.OpenShut
import Derived.ShutString
import Derived.ChangeOld
import Derived.Below
import Derived.SizedLaws
import Derived.Test.YtpkobboljdaaeaaWSized
namespace Go.Proofs.Ytpkobboljdaaeaa.blackTells
open Go.ChangeShapes Go.WideShapes Go.ChangeAt Go.RowKit
open Go.ChangeMaps (open_string shut_string)
open Go.Proofs.Ytpkobboljdaaeaa.GA Go.Proofs.YtpkobboljdaaeaaW.PrintWords Go.Proofs.YtpkobboljdaaeaaW.PrintFit
set_option linter.unusedVariables false
theorem own : ownKnob Try.prog.godebug = none := by kernel_rfl
theorem laidOut : laidOutB Try.prog = true := by kernel_rfl
def IsRow (k : IntKind) (w : World) (a : Option Addr) (len cap : Nat) (zs : List Int) : Prop :=
  (a = none ∧ len = 0 ∧ cap = 0 ∧ zs = []) ∨
  ∃ x, a = some x ∧ len ≤ cap ∧ cap ≤ maxLen ∧ zs.length = cap ∧ (∀ i, i < zs.length → w.cell? (x.add i) = some (.int k (zs.getD i 0))) ∧ ∀ n ∈ zs, (Lit.int k n).wf = true
theorem fits31 : Fits Try.prog 31 k31 ok31 := by
  refine fits_struct Try.underlying31 (by kernel_rfl) (from_cons rfl (fits_int (k := .i64) Try.underlying2 (by kernel_rfl)) (from_cons rfl (fits_int (k := .i64) Try.underlying2 (by kernel_rfl)) (from_last rfl (fits_int (k := .u64) Try.underlying23 (by kernel_rfl))))) ?_
  intro v h
  exact ⟨⟨v.1, v.2.1, v.2.2⟩, rfl, h⟩
theorem fits56 : Fits Try.prog 56 k56 ok56 := by
  refine fits_struct Try.underlying56 (by kernel_rfl) (from_cons rfl (fits_string Try.underlying9 (by kernel_rfl)) (from_cons rfl (fits_bool Try.underlying4 (by kernel_rfl)) (from_cons rfl (fits_int (k := .i64) Try.underlying2 (by kernel_rfl)) (from_last rfl (fits_int (k := .i64) Try.underlying2 (by kernel_rfl)))))) ?_
  intro v h
  exact ⟨⟨v.1, v.2.1, v.2.2.1, v.2.2.2⟩, rfl, h⟩
theorem fits75 : Fits Try.prog 75 k75 ok75 := by
  refine fits_struct Try.underlying75 (by kernel_rfl) (from_cons rfl (fits_int (k := .i64) Try.underlying2 (by kernel_rfl)) (from_last rfl (fits_int (k := .i64) Try.underlying2 (by kernel_rfl)))) ?_
  intro v h
  exact ⟨⟨v.1, v.2⟩, rfl, h⟩
theorem fits77 : Fits Try.prog 77 k77 ok77 := by
  refine fits_struct Try.underlying77 (by kernel_rfl) (from_cons rfl (fits_int (k := .u64) Try.underlying23 (by kernel_rfl)) (from_cons rfl (fits_int (k := .u64) Try.underlying23 (by kernel_rfl)) (from_last rfl (fits_int (k := .i64) Try.underlying2 (by kernel_rfl))))) ?_
  intro v h
  exact ⟨⟨v.1, v.2.1, v.2.2⟩, rfl, h⟩
theorem fits37 : Fits Try.prog 37 k37 ok37 := by
  refine fits_struct Try.underlying37 (by kernel_rfl) (from_cons rfl (fits_slice Try.underlying33 (by kernel_rfl) fits56) (from_cons rfl (fits_int (k := .u8) Try.underlying5 (by kernel_rfl)) (from_cons rfl (fits_int (k := .i64) Try.underlying2 (by kernel_rfl)) (from_cons rfl (fits_bool Try.underlying4 (by kernel_rfl)) (from_cons rfl (fits_int (k := .i64) Try.underlying2 (by kernel_rfl)) (from_cons rfl (fits_int (k := .i64) Try.underlying2 (by kernel_rfl)) (from_cons rfl (fits_int (k := .i64) Try.underlying2 (by kernel_rfl)) (from_cons rfl (fits_int (k := .i64) Try.underlying2 (by kernel_rfl)) (from_cons rfl (fits_int (k := .i64) Try.underlying2 (by kernel_rfl)) (from_cons rfl (fits_int (k := .i64) Try.underlying2 (by kernel_rfl)) (from_cons rfl (fits_int (k := .u64) Try.underlying23 (by kernel_rfl)) (from_cons rfl (fits_int (k := .u64) Try.underlying23 (by kernel_rfl)) (from_cons rfl (fits_int (k := .u64) Try.underlying23 (by kernel_rfl)) (from_cons rfl (fits_int (k := .u64) Try.underlying23 (by kernel_rfl)) (from_cons rfl (fits_int (k := .u64) Try.underlying23 (by kernel_rfl)) (from_cons rfl (fits_int (k := .u64) Try.underlying23 (by kernel_rfl)) (from_cons rfl (fits_bool Try.underlying4 (by kernel_rfl)) (from_cons rfl (fits_int (k := .i64) Try.underlying2 (by kernel_rfl)) (from_cons rfl (fits_slice Try.underlying34 (by kernel_rfl) fits75) (from_last rfl (fits_slice Try.underlying35 (by kernel_rfl) fits77))))))))))))))))))))) ?_
  intro v h
  exact ⟨⟨v.1, v.2.1, v.2.2.1, v.2.2.2.1, v.2.2.2.2.1, v.2.2.2.2.2.1, v.2.2.2.2.2.2.1, v.2.2.2.2.2.2.2.1, v.2.2.2.2.2.2.2.2.1, v.2.2.2.2.2.2.2.2.2.1, v.2.2.2.2.2.2.2.2.2.2.1, v.2.2.2.2.2.2.2.2.2.2.2.1, v.2.2.2.2.2.2.2.2.2.2.2.2.1, v.2.2.2.2.2.2.2.2.2.2.2.2.2.1, v.2.2.2.2.2.2.2.2.2.2.2.2.2.2.1, v.2.2.2.2.2.2.2.2.2.2.2.2.2.2.2.1, v.2.2.2.2.2.2.2.2.2.2.2.2.2.2.2.2.1, v.2.2.2.2.2.2.2.2.2.2.2.2.2.2.2.2.2.1, v.2.2.2.2.2.2.2.2.2.2.2.2.2.2.2.2.2.2.1, v.2.2.2.2.2.2.2.2.2.2.2.2.2.2.2.2.2.2.2⟩, rfl, h⟩
set_option maxRecDepth 100000 in
set_option maxHeartbeats 4000000 in
theorem lifted (os : Os) (started : os.Started) (H : Type) (enc : TypeId × Value → H) :
    ReturnsInHanded {} Try.checked os 5 .any (Rows.blackTellsSpec.pre6 enc Try.prog Try.f5 Rows.blackTellsRow.domain false) (Rows.blackTellsSpec.post enc Try.prog Try.f5 false true false false) := by
  refine returnsInHanded_of_change_sized (C := Try.checked) own started (by kernel_rfl) Try.func5
    (ChangeSpec.witness6 (enc := enc) (C := Try.checked) false ⟨#[], #[.agg #[.slice none 0 0, .int .u8 0, .int .i64 0, .bool false, .int .i64 0, .int .i64 0, .int .i64 0, .int .i64 0, .int .i64 0, .int .i64 0, .int .u64 0, .int .u64 0, .int .u64 0, .int .u64 0, .int .u64 0, .int .u64 0, .bool false, .int .i64 0, .slice none 0 0, .slice none 0 0], .slice none 0 0, .int .i64 0, .int .u64 0, .int .u64 0, .int .i64 0, .int .i64 0, .bool false], []⟩ 8 (by kernel_rfl) (by kernel_rfl) (by kernel_rfl) (by kernel_rfl)) ?_
  intro W base args ds gs before hval0 hW hcnd hsz0 _
  have hsz : (DataW.weightsEach Try.prog (Try.f5.params.toList ++ Rows.blackTellsSpec.plain.varTypes Try.prog) (ds ++ gs)).all (· ≤ reachBytes) = true := hsz0
  have hval : ∀ (j : Nat) t v, Try.f5.params[j]? = some t → args[j]? = some v → Value.okWide Try.prog W .any base t v := hval0
  have hW' := hW
  obtain ⟨p, q, hA0, hV, rfl, hfz, hnd⟩ := hW
  have hA : DataW.TrodAll enc Try.prog W 0 (fun _ => true) true Try.f5.params.toList args.toList ds p := hA0
  rw [Try.params5] at hA hval hsz
  obtain ⟨v0, vs0, d0, ds0, p0, q0, hargs, rfl, rfl, h0, r0⟩ := trodAll_cons hA
  obtain ⟨v1, vs1, d1, ds1, p1, q1, rfl, rfl, rfl, h1, r1⟩ := trodAll_cons r0
  obtain ⟨v2, vs2, d2, ds2, p2, q2, rfl, rfl, rfl, h2, r2⟩ := trodAll_cons r1
  obtain ⟨v3, vs3, d3, ds3, p3, q3, rfl, rfl, rfl, h3, r3⟩ := trodAll_cons r2
  obtain ⟨v4, vs4, d4, ds4, p4, q4, rfl, rfl, rfl, h4, r4⟩ := trodAll_cons r3
  obtain ⟨v5, vs5, d5, ds5, p5, q5, rfl, rfl, rfl, h5, r5⟩ := trodAll_cons r4
  obtain ⟨v6, vs6, d6, ds6, p6, q6, rfl, rfl, rfl, h6, r6⟩ := trodAll_cons r5
  obtain ⟨v7, vs7, d7, ds7, p7, q7, rfl, rfl, rfl, h7, r7⟩ := trodAll_cons r6
  obtain ⟨rfl, rfl, rfl⟩ := trodAll_nil r7
  obtain rfl : args = #[v0, v1, v2, v3, v4, v5, v6, v7] := by cases args; simp_all
  obtain ⟨rfl, rfl⟩ := trodVars_none hV
  have k0 := h0
  have lt0 : ∀ x ∈ p0, x.block < W.heap.size := by obtain ⟨m, hm⟩ := k0; exact DataW.trod_lt m _ _ _ hm
  obtain ⟨cs0, rfl, _⟩ := okWide_struct Try.underlying37 (hval 0 37 v0 rfl rfl)
  obtain ⟨x0, hK0, ok0⟩ : ∃ x, k37.K W x cs0.toList ∧ ok37 x := by
    obtain ⟨fuel, hf⟩ := h0
    exact fits37.out hf
  obtain ⟨A0_0, c0_0, A0_18, c0_18, A0_19, c0_19, hcs0, hc0_0, hr0_0, hc0_18, hr0_18, hc0_19, hr0_19⟩ := k37_open hK0
  obtain ⟨cs0⟩ := cs0
  simp only at hcs0
  subst hcs0
  obtain ⟨a1, len1, cap1, rfl⟩ := okWide_slice Try.underlying22 (hval 1 22 v1 rfl rfl)
  have k1 := h1
  have lt1 : ∀ x ∈ p1, x.block < W.heap.size := by obtain ⟨m, hm⟩ := k1; exact DataW.trod_lt m _ _ _ hm
  obtain ⟨l1, ⟨A1, c1, hcs1, hc1, hr1⟩, ok1⟩ : ∃ l, (Kd.slice 31 k31).K W l [.slice a1 len1 cap1] ∧ (l.length ≤ maxLen ∧ ∀ y ∈ l, ok31 y) := by
    obtain ⟨fuel, hf⟩ := h1
    exact slice_K Try.underlying22 fits31 hf
  obtain ⟨rfl, rfl, rfl⟩ : a1 = A1 ∧ len1 = l1.length ∧ cap1 = c1 := by simpa using hcs1
  obtain ⟨a2, rfl, rfl, rfl, w2⟩ := open_int Try.underlying3 (hval 2 3 v2 rfl rfl) h2
  obtain ⟨a3, rfl, rfl, rfl, w3⟩ := open_int Try.underlying23 (hval 3 23 v3 rfl rfl) h3
  obtain ⟨a4, rfl, rfl, rfl, w4⟩ := open_int Try.underlying23 (hval 4 23 v4 rfl rfl) h4
  obtain ⟨a5, rfl, rfl, rfl, w5⟩ := open_int Try.underlying2 (hval 5 2 v5 rfl rfl) h5
  obtain ⟨a6, rfl, rfl, rfl, w6⟩ := open_int Try.underlying2 (hval 6 2 v6 rfl rfl) h6
  obtain ⟨a7, rfl, rfl, rfl⟩ := open_bool Try.underlying4 (hval 7 4 v7 rfl rfl) h7
  clear hA0 hval0 hsz0 hsz
  obtain ⟨k, h⟩ := Pure.BlackTells x0 l1 a2 a3 a4 a5 a6 a7 ok0 ok1 w2 w3 w4 w5 w6
  refine (cohortlaw14_BlackTells.calls k _ _ x0.f0 x0.f1 x0.f2 x0.f3 x0.f4 x0.f5 x0.f6 x0.f7 x0.f8 x0.f9 x0.f10 x0.f11 x0.f12 x0.f13 x0.f14 x0.f15 x0.f16 x0.f17 _ _ x0.f18 _ _ x0.f19 _ _ l1 a2 a3 a4 a5 a6 a7 true W hr0_0 hc0_0 hr0_18 hc0_18 hr0_19 hc0_19 hr1 hc1 h).mono ?_
  rintro e W' ⟨rfl, bel⟩
  exact ⟨_, rfl, _, _, _, [], _, [], hW', trodAll_mk1 (shut_bool Try.underlying4 _), (trodAll_cons_mk (Below.trod laidOut (by kernel_rfl) (of_decide_eq_true (by kernel_rfl)) k0 bel lt0) (trodAll_cons_mk (Below.trod laidOut (by kernel_rfl) (of_decide_eq_true (by kernel_rfl)) k1 bel lt1) (trodAll_cons_mk (shut_int Try.underlying3 w2) (trodAll_cons_mk (shut_int Try.underlying23 w3) (trodAll_cons_mk (shut_int Try.underlying23 w4) (trodAll_cons_mk (shut_int Try.underlying2 w5) (trodAll_cons_mk (shut_int Try.underlying2 w6) (trodAll_cons_mk (shut_bool Try.underlying4 _) trodAll_mk0)))))))), rfl, bel.frame _, fun h => by cases h⟩
theorem over : Rows.blackTellsRow.holds Try.pinned (OpenSpec.ofChange Rows.blackTellsSpec) :=
  OpenClaim.holds_of_wide 5 Try.f5 rfl rfl rfl rfl rfl rfl rfl ⟨rfl, rfl, rfl, rfl, rfl⟩ rfl rfl rfl rfl rfl (by kernel_rfl) Try.func5 (by kernel_rfl)
    (of_decide_eq_true (by kernel_rfl)) (by unfold Func.isWrapper; first | (rw [if_pos (by decide +kernel)]; kernel_rfl) | (rw [if_neg (by decide +kernel)]; exact ⟨rfl, rfl⟩))
    (fun os started H enc _ => lifted os started H enc)
theorem proved : Rows.BlackTellsSaid := over
#print axioms proved
end Go.Proofs.Ytpkobboljdaaeaa.blackTells
namespace Go.Proofs.Ytpkobboljdaaeaa
/-- The row, under a short name, for the claim. -/
theorem blackTells_holds : Rows.BlackTellsSaid := blackTells.proved
end Go.Proofs.Ytpkobboljdaaeaa
