/- Contracts: each call of a Go function answers what the Lean function of its name says; a law of the set follows. No condition but each theorem's own. Written by a program of this session's out of the translation, with the functions proved by hand let in. -/
import Derived.Test.YtiohijahacclnaaRows
import Derived.Test.YtiohijahacclnaaGBx6
import Derived.Test.YtiohijahacclnaaFit
import Derived.Test.YtiohijahacclnaaPureWantWithin
import Derived.WalkKit
import Derived.ProofKit
import Derived.OpenShut
import Derived.ShutString
import Derived.ChangeOld
import Derived.Below
import Derived.SizedLaws
import Derived.Test.YtiohijahacclnaaWSized
namespace Go.Proofs.Ytiohijahacclnaa.wantWithin
open Go.ChangeShapes Go.WideShapes Go.ChangeAt Go.RowKit
open Go.ChangeMaps (open_string shut_string)
open Go.Proofs.Ytiohijahacclnaa.GB Go.Proofs.YtiohijahacclnaaW.PrintWords Go.Proofs.YtiohijahacclnaaW.PrintFit
set_option linter.unusedVariables false
theorem own : ownKnob Try.prog.godebug = none := by kernel_rfl
theorem laidOut : laidOutB Try.prog = true := by kernel_rfl
def IsRow (k : IntKind) (w : World) (a : Option Addr) (len cap : Nat) (zs : List Int) : Prop :=
  (a = none ∧ len = 0 ∧ cap = 0 ∧ zs = []) ∨
  ∃ x, a = some x ∧ len ≤ cap ∧ cap ≤ maxLen ∧ zs.length = cap ∧ (∀ i, i < zs.length → w.cell? (x.add i) = some (.int k (zs.getD i 0))) ∧ ∀ n ∈ zs, (Lit.int k n).wf = true
theorem fits95 : Fits Try.prog 95 k95 ok95 := by
  refine fits_struct Try.underlying95 (by kernel_rfl) (from_cons rfl (fits_string Try.underlying9 (by kernel_rfl)) (from_cons rfl (fits_bool Try.underlying4 (by kernel_rfl)) (from_cons rfl (fits_int (k := .i64) Try.underlying2 (by kernel_rfl)) (from_last rfl (fits_int (k := .i64) Try.underlying2 (by kernel_rfl)))))) ?_
  intro v h
  exact ⟨⟨v.1, v.2.1, v.2.2.1, v.2.2.2⟩, rfl, h⟩
theorem fits49 : Fits Try.prog 49 k49 ok49 := by
  refine fits_struct Try.underlying49 (by kernel_rfl) (from_cons rfl (fits_int (k := .i64) Try.underlying2 (by kernel_rfl)) (from_last rfl (fits_int (k := .i64) Try.underlying2 (by kernel_rfl)))) ?_
  intro v h
  exact ⟨⟨v.1, v.2⟩, rfl, h⟩
theorem fits97 : Fits Try.prog 97 k97 ok97 := by
  refine fits_struct Try.underlying97 (by kernel_rfl) (from_cons rfl (fits_int (k := .u64) Try.underlying23 (by kernel_rfl)) (from_cons rfl (fits_int (k := .u64) Try.underlying23 (by kernel_rfl)) (from_last rfl (fits_int (k := .i64) Try.underlying2 (by kernel_rfl))))) ?_
  intro v h
  exact ⟨⟨v.1, v.2.1, v.2.2⟩, rfl, h⟩
theorem fits27 : Fits Try.prog 27 k27 ok27 := by
  refine fits_struct Try.underlying27 (by kernel_rfl) (from_cons rfl (fits_slice Try.underlying22 (by kernel_rfl) fits95) (from_cons rfl (fits_int (k := .u8) Try.underlying5 (by kernel_rfl)) (from_cons rfl (fits_int (k := .i64) Try.underlying2 (by kernel_rfl)) (from_cons rfl (fits_bool Try.underlying4 (by kernel_rfl)) (from_cons rfl (fits_int (k := .i64) Try.underlying2 (by kernel_rfl)) (from_cons rfl (fits_int (k := .i64) Try.underlying2 (by kernel_rfl)) (from_cons rfl (fits_int (k := .i64) Try.underlying2 (by kernel_rfl)) (from_cons rfl (fits_int (k := .i64) Try.underlying2 (by kernel_rfl)) (from_cons rfl (fits_int (k := .i64) Try.underlying2 (by kernel_rfl)) (from_cons rfl (fits_int (k := .i64) Try.underlying2 (by kernel_rfl)) (from_cons rfl (fits_int (k := .u64) Try.underlying23 (by kernel_rfl)) (from_cons rfl (fits_int (k := .u64) Try.underlying23 (by kernel_rfl)) (from_cons rfl (fits_int (k := .u64) Try.underlying23 (by kernel_rfl)) (from_cons rfl (fits_int (k := .u64) Try.underlying23 (by kernel_rfl)) (from_cons rfl (fits_int (k := .u64) Try.underlying23 (by kernel_rfl)) (from_cons rfl (fits_int (k := .u64) Try.underlying23 (by kernel_rfl)) (from_cons rfl (fits_bool Try.underlying4 (by kernel_rfl)) (from_cons rfl (fits_int (k := .i64) Try.underlying2 (by kernel_rfl)) (from_cons rfl (fits_slice Try.underlying24 (by kernel_rfl) fits49) (from_last rfl (fits_slice Try.underlying25 (by kernel_rfl) fits97))))))))))))))))))))) ?_
  intro v h
  exact ⟨⟨v.1, v.2.1, v.2.2.1, v.2.2.2.1, v.2.2.2.2.1, v.2.2.2.2.2.1, v.2.2.2.2.2.2.1, v.2.2.2.2.2.2.2.1, v.2.2.2.2.2.2.2.2.1, v.2.2.2.2.2.2.2.2.2.1, v.2.2.2.2.2.2.2.2.2.2.1, v.2.2.2.2.2.2.2.2.2.2.2.1, v.2.2.2.2.2.2.2.2.2.2.2.2.1, v.2.2.2.2.2.2.2.2.2.2.2.2.2.1, v.2.2.2.2.2.2.2.2.2.2.2.2.2.2.1, v.2.2.2.2.2.2.2.2.2.2.2.2.2.2.2.1, v.2.2.2.2.2.2.2.2.2.2.2.2.2.2.2.2.1, v.2.2.2.2.2.2.2.2.2.2.2.2.2.2.2.2.2.1, v.2.2.2.2.2.2.2.2.2.2.2.2.2.2.2.2.2.2.1, v.2.2.2.2.2.2.2.2.2.2.2.2.2.2.2.2.2.2.2⟩, rfl, h⟩
set_option maxRecDepth 100000 in
set_option maxHeartbeats 4000000 in
theorem lifted (os : Os) (started : os.Started) (H : Type) (enc : TypeId × Value → H) :
    ReturnsInHanded {} Try.checked os 3 .any (Rows.wantWithinSpec.pre6 enc Try.prog Try.f3 Rows.wantWithinRow.domain false) (Rows.wantWithinSpec.post enc Try.prog Try.f3 false true false false) := by
  refine returnsInHanded_of_change_sized (C := Try.checked) own started (by kernel_rfl) Try.func3
    (ChangeSpec.witness6 (enc := enc) (C := Try.checked) false ⟨#[], #[.agg #[.slice none 0 0, .int .u8 0, .int .i64 0, .bool false, .int .i64 0, .int .i64 0, .int .i64 0, .int .i64 0, .int .i64 0, .int .i64 0, .int .u64 0, .int .u64 0, .int .u64 0, .int .u64 0, .int .u64 0, .int .u64 0, .bool false, .int .i64 0, .slice none 0 0, .slice none 0 0], .int .i64 0, .int .u64 0, .int .u64 0, .slice none 0 0], []⟩ 8 (by kernel_rfl) (by kernel_rfl) (by kernel_rfl) (by kernel_rfl)) ?_
  intro W base args ds gs before hval0 hW hcnd hsz0 _
  have hsz : (DataW.weightsEach Try.prog (Try.f3.params.toList ++ Rows.wantWithinSpec.plain.varTypes Try.prog) (ds ++ gs)).all (· ≤ reachBytes) = true := hsz0
  have hval : ∀ (j : Nat) t v, Try.f3.params[j]? = some t → args[j]? = some v → Value.okWide Try.prog W .any base t v := hval0
  have hW' := hW
  obtain ⟨p, q, hA0, hV, rfl, hfz, hnd⟩ := hW
  have hA : DataW.TrodAll enc Try.prog W 0 (fun _ => true) true Try.f3.params.toList args.toList ds p := hA0
  rw [Try.params3] at hA hval hsz
  obtain ⟨v0, vs0, d0, ds0, p0, q0, hargs, rfl, rfl, h0, r0⟩ := trodAll_cons hA
  obtain ⟨v1, vs1, d1, ds1, p1, q1, rfl, rfl, rfl, h1, r1⟩ := trodAll_cons r0
  obtain ⟨v2, vs2, d2, ds2, p2, q2, rfl, rfl, rfl, h2, r2⟩ := trodAll_cons r1
  obtain ⟨v3, vs3, d3, ds3, p3, q3, rfl, rfl, rfl, h3, r3⟩ := trodAll_cons r2
  obtain ⟨v4, vs4, d4, ds4, p4, q4, rfl, rfl, rfl, h4, r4⟩ := trodAll_cons r3
  obtain ⟨rfl, rfl, rfl⟩ := trodAll_nil r4
  obtain rfl : args = #[v0, v1, v2, v3, v4] := by cases args; simp_all
  obtain ⟨rfl, rfl⟩ := trodVars_none hV
  have k0 := h0
  have lt0 : ∀ x ∈ p0, x.block < W.heap.size := by obtain ⟨m, hm⟩ := k0; exact DataW.trod_lt m _ _ _ hm
  obtain ⟨cs0, rfl, _⟩ := okWide_struct Try.underlying27 (hval 0 27 v0 rfl rfl)
  obtain ⟨x0, hK0, ok0⟩ : ∃ x, k27.K W x cs0.toList ∧ ok27 x := by
    obtain ⟨fuel, hf⟩ := h0
    exact fits27.out hf
  obtain ⟨A0_0, c0_0, A0_18, c0_18, A0_19, c0_19, hcs0, hc0_0, hr0_0, hc0_18, hr0_18, hc0_19, hr0_19⟩ := k27_open hK0
  obtain ⟨cs0⟩ := cs0
  simp only at hcs0
  subst hcs0
  obtain ⟨a1, rfl, rfl, rfl, w1⟩ := open_int Try.underlying2 (hval 1 2 v1 rfl rfl) h1
  obtain ⟨a2, rfl, rfl, rfl, w2⟩ := open_int Try.underlying23 (hval 2 23 v2 rfl rfl) h2
  obtain ⟨a3, rfl, rfl, rfl, w3⟩ := open_int Try.underlying23 (hval 3 23 v3 rfl rfl) h3
  obtain ⟨a4, len4, cap4, rfl⟩ := okWide_slice Try.underlying28 (hval 4 28 v4 rfl rfl)
  have k4 := h4
  have lt4 : ∀ x ∈ p4, x.block < W.heap.size := by obtain ⟨m, hm⟩ := k4; exact DataW.trod_lt m _ _ _ hm
  obtain ⟨z4, w4⟩ : ∃ zs, IsRow .i64 W a4 len4 cap4 zs := by
    obtain ⟨fuel, hf⟩ := h4
    rcases open_ints Try.underlying28 Try.underlying2 (by kernel_rfl) hf with ⟨hcs, _⟩ | ⟨x, l, c, zs, hcs, _, hl, hm, hz, _, hcell, hwz⟩
    · simp [Value.cells] at hcs
      obtain ⟨rfl, rfl, rfl⟩ := hcs
      exact ⟨[], .inl ⟨rfl, rfl, rfl, rfl⟩⟩
    · simp [Value.cells] at hcs
      obtain ⟨rfl, rfl, rfl⟩ := hcs
      exact ⟨zs, .inr ⟨_, rfl, hl, hm, by simpa using hz, hcell, hwz⟩⟩
  have y4 : len4 * 8 ≤ 140737488351232 := Go.Proofs.YtiohijahacclnaaW.PrintWords.sized_ints hsz (j := 4) (t := 28) rfl rfl Try.underlying28 Try.underlying2 (by kernel_rfl) (by kernel_rfl) h4
  obtain ⟨l4, rfl, hr4, hm4, hw4, hc4⟩ := ReadsInt.ofRowC w4
  clear hA0 hval0 hsz0 hsz
  obtain ⟨k, h⟩ := Pure.WantWithin x0 a1 a2 a3 l4 ok0 w1 w2 w3 hm4 y4 hw4
  refine (cohortlaw24_WantWithin.calls k _ _ x0.f0 x0.f1 x0.f2 x0.f3 x0.f4 x0.f5 x0.f6 x0.f7 x0.f8 x0.f9 x0.f10 x0.f11 x0.f12 x0.f13 x0.f14 x0.f15 x0.f16 x0.f17 _ _ x0.f18 _ _ x0.f19 a1 a2 a3 _ _ l4 true W hr0_0 hc0_0 hr0_18 hc0_18 hr0_19 hc0_19 (Kd.C_of_reads (d := (0 : Int)) (h1 := fun _ => rfl) hr4) hc4 h).mono ?_
  rintro e W' ⟨rfl, bel⟩
  exact ⟨_, rfl, _, _, _, [], _, [], hW', trodAll_mk1 (shut_bool Try.underlying4 _), (trodAll_cons_mk (Below.trod laidOut (by kernel_rfl) (of_decide_eq_true (by kernel_rfl)) k0 bel lt0) (trodAll_cons_mk (shut_int Try.underlying2 w1) (trodAll_cons_mk (shut_int Try.underlying23 w2) (trodAll_cons_mk (shut_int Try.underlying23 w3) (trodAll_cons_mk (Below.trod laidOut (by kernel_rfl) (of_decide_eq_true (by kernel_rfl)) k4 bel lt4) trodAll_mk0))))), rfl, bel.frame _, fun h => by cases h⟩
theorem over : Rows.wantWithinRow.holds Try.pinned (OpenSpec.ofChange Rows.wantWithinSpec) :=
  OpenClaim.holds_of_wide 3 Try.f3 rfl rfl rfl rfl rfl rfl rfl ⟨rfl, rfl, rfl, rfl, rfl⟩ rfl rfl rfl rfl rfl (by kernel_rfl) Try.func3 (by kernel_rfl)
    (of_decide_eq_true (by kernel_rfl)) (by unfold Func.isWrapper; first | (rw [if_pos (by decide +kernel)]; kernel_rfl) | (rw [if_neg (by decide +kernel)]; exact ⟨rfl, rfl⟩))
    (fun os started H enc _ => lifted os started H enc)
theorem proved : Rows.WantWithinSaid := over
#print axioms proved
end Go.Proofs.Ytiohijahacclnaa.wantWithin
namespace Go.Proofs.Ytiohijahacclnaa
/-- The row, under a short name, for the claim. -/
theorem wantWithin_holds : Rows.WantWithinSaid := wantWithin.proved
end Go.Proofs.Ytiohijahacclnaa
