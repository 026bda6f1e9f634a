/- The law of the warm pool, of any state: what a state's cells read as; the row. No condition. -/
import Derived.Test.YtglpedacanjpbaaRows
import Derived.Test.YtglpedacanjpbaaW17
import Derived.Test.YtglpedacanjpbaaFit
import Derived.WalkKit
import Derived.ProofKit
import Derived.OpenShut
import Derived.ShutString
import Derived.ChangeOld
import Derived.Below
import Derived.SizedLaws
import Derived.Test.YtglpedacanjpbaaWSized
namespace Go.Proofs.Ytglpedacanjpbaa.warmMuch
open Go.ChangeShapes Go.WideShapes Go.ChangeAt Go.RowKit
open Go.ChangeMaps (open_string shut_string)
open Go.Proofs.Ytglpedacanjpbaa.GA Go.Proofs.YtglpedacanjpbaaW.PrintWords Go.Proofs.YtglpedacanjpbaaW.PrintFit
set_option linter.unusedVariables false
theorem own : ownKnob Try.prog.godebug = none := by kernel_rfl
theorem laidOut : laidOutB Try.prog = true := by kernel_rfl
theorem fits42 : Fits Try.prog 42 k42 (fun _ => True) := by
  refine fits_struct Try.underlying42 (by kernel_rfl) (from_cons rfl (fits_int (k := .u64) Try.underlying23 (by kernel_rfl)) (from_cons rfl (fits_int (k := .u64) Try.underlying23 (by kernel_rfl)) (from_cons rfl (fits_int (k := .i64) Try.underlying3 (by kernel_rfl)) (from_cons rfl (fits_int (k := .i64) Try.underlying2 (by kernel_rfl)) (from_cons rfl (fits_bool Try.underlying4 (by kernel_rfl)) (from_cons rfl (fits_int (k := .u8) Try.underlying5 (by kernel_rfl)) (from_cons rfl (fits_int (k := .u64) Try.underlying23 (by kernel_rfl)) (from_cons rfl (fits_bool Try.underlying4 (by kernel_rfl)) (from_cons rfl (fits_int (k := .u64) Try.underlying23 (by kernel_rfl)) (from_cons rfl (fits_bool Try.underlying4 (by kernel_rfl)) (from_cons rfl (fits_bool Try.underlying4 (by kernel_rfl)) (from_last rfl (fits_int (k := .u32) Try.underlying28 (by kernel_rfl)))))))))))))) ?_
  intro v h
  exact ⟨⟨v.1, v.2.1, v.2.2.1, v.2.2.2.1, v.2.2.2.2.1, v.2.2.2.2.2.1, v.2.2.2.2.2.2.1, v.2.2.2.2.2.2.2.1, v.2.2.2.2.2.2.2.2.1, v.2.2.2.2.2.2.2.2.2.1, v.2.2.2.2.2.2.2.2.2.2.1, v.2.2.2.2.2.2.2.2.2.2.2⟩, rfl, trivial⟩
theorem fits67 : Fits Try.prog 67 k67 (fun _ => True) := by
  refine fits_struct Try.underlying67 (by kernel_rfl) (from_cons rfl (fits_int (k := .u8) Try.underlying5 (by kernel_rfl)) (from_cons rfl (fits_int (k := .u64) Try.underlying23 (by kernel_rfl)) (from_cons rfl (fits_int (k := .i64) Try.underlying3 (by kernel_rfl)) (from_cons rfl (fits_bool Try.underlying4 (by kernel_rfl)) (from_last rfl (fits_int (k := .u64) Try.underlying23 (by kernel_rfl))))))) ?_
  intro v h
  exact ⟨⟨v.1, v.2.1, v.2.2.1, v.2.2.2.1, v.2.2.2.2⟩, rfl, trivial⟩
theorem fits69 : Fits Try.prog 69 k69 (fun _ => True) := by
  refine fits_struct Try.underlying69 (by kernel_rfl) (from_cons rfl fits67 (from_cons rfl (fits_int (k := .u64) Try.underlying23 (by kernel_rfl)) (from_cons rfl (fits_int (k := .i64) Try.underlying2 (by kernel_rfl)) (from_cons rfl (fits_bool Try.underlying4 (by kernel_rfl)) (from_last rfl (fits_int (k := .u32) Try.underlying28 (by kernel_rfl))))))) ?_
  intro v h
  exact ⟨⟨v.1, v.2.1, v.2.2.1, v.2.2.2.1, v.2.2.2.2⟩, rfl, trivial⟩
/-- A field's cells read as the field's type does. -/
theorem field_T {P : Program} {t : TypeId} {fs : Array Field} (ht : P.underlying t = some (.struct fs)) {H : Type} {enc : TypeId × Value → H} {w : World} {base : Nat} {spare : Nat → Bool} {held : Bool} {fuel : Nat} {cs : List Value} {x : DataW H × List MemPlace}
    (h : DataW.trod enc P w base spare held fuel t cs = some x) (i : Nat) (o : Nat) (ty : TypeId) (f : Field) (hf : fs[i]? = some f) (hfo : f.offset = o) (hft : f.type = ty) : ∃ (m : Nat) (y : DataW H × List MemPlace), DataW.trod enc P w base spare held m ty ((cs.drop o).take (P.cellsOf ty)) = some y := by
  subst hfo hft
  obtain ⟨xs, n, _, _, _, hx, hi⟩ := DataW.trod_struct ht h
  have hlt : i < xs.length := by
    have := (Array.getElem?_eq_some_iff.1 hf).1
    simpa [hx] using this
  exact ⟨n, xs[i], (hi i f hf).trans (List.getElem?_eq_getElem hlt)⟩
theorem cell_of {l : List Value} {o : Nat} {v : Value} (h : (l.drop o).take 1 = [v]) : l[o]? = some v := by
  have h2 := congrArg (fun x => x[0]?) h
  simpa [List.getElem?_take_of_lt, List.getElem?_drop] using h2
theorem cell_in {l : List Value} {a b o : Nat} {v : Value} (hb : o < b) (h : ((l.drop a).take b)[o]? = some v) : l[a + o]? = some v := by
  rw [List.getElem?_take_of_lt hb, List.getElem?_drop] at h
  exact h
set_option maxRecDepth 100000 in
set_option maxHeartbeats 4000000 in
theorem state {H : Type} {enc : TypeId × Value → H} {w : World} {base : Nat} {spare : Nat → Bool} {held : Bool} {fuel : Nat} {S : Array Value} {x : DataW H × List MemPlace} (hz : S.size = Try.prog.cellsOf 36) (h : DataW.trod enc Try.prog w base spare held fuel 36 S.toList = some x) :
    ∃ (ver wm : Int) (on st : Bool) (Ai : Option Addr) (ci : Nat) (li : List S42) (Ao : Option Addr) (co : Nat) (lo : List S69), ST S ver wm on st Ai ci li Ao co lo ∧ Kd.C k42 w Ai li.length li ∧ li.length ≤ ci ∧ Kd.C k69 w Ao lo.length lo := by
  have z55 : Try.prog.cellsOf 36 = 55 := by kernel_rfl
  have z27 : Try.prog.cellsOf 27 = 20 := by kernel_rfl
  have z33 : Try.prog.cellsOf 33 = 6 := by kernel_rfl
  have z28 : Try.prog.cellsOf 28 = 1 := by kernel_rfl
  have z30 : Try.prog.cellsOf 30 = 1 := by kernel_rfl
  have z31 : Try.prog.cellsOf 31 = 1 := by kernel_rfl
  have z2 : Try.prog.cellsOf 2 = 1 := by kernel_rfl
  have z4 : Try.prog.cellsOf 4 = 1 := by kernel_rfl
  obtain ⟨m0, y0, h0⟩ := field_T Try.underlying36 h 0 0 27 _ rfl rfl rfl
  obtain ⟨m9, y9, h9⟩ := field_T Try.underlying27 h0 9 9 2 _ rfl rfl rfl
  obtain ⟨m2, y2, h2⟩ := field_T Try.underlying36 h 2 40 28 _ rfl rfl rfl
  obtain ⟨m8, y8, h8⟩ := field_T Try.underlying36 h 8 46 30 _ rfl rfl rfl
  obtain ⟨mo, yo, ho⟩ := field_T Try.underlying36 h 9 47 31 _ rfl rfl rfl
  obtain ⟨mr, yr, hr⟩ := field_T Try.underlying36 h 10 48 33 _ rfl rfl rfl
  obtain ⟨mn, yn, hn⟩ := field_T Try.underlying33 hr 0 0 4 _ rfl rfl rfl
  obtain ⟨ms, ys, hs⟩ := field_T Try.underlying33 hr 4 4 4 _ rfl rfl rfl
  obtain ⟨wm, hwm, _⟩ := (fits_int (P := Try.prog) (k := .i64) Try.underlying2 (by kernel_rfl)).out h9
  obtain ⟨ver, hver, _⟩ := (fits_int (P := Try.prog) (k := .u32) Try.underlying28 (by kernel_rfl)).out h2
  obtain ⟨on, hon, _⟩ := (fits_bool (P := Try.prog) Try.underlying4 (by kernel_rfl)).out hn
  obtain ⟨st, hst, _⟩ := (fits_bool (P := Try.prog) Try.underlying4 (by kernel_rfl)).out hs
  obtain ⟨li, ⟨Ai, ci, eI, hci, hI⟩, _⟩ := slice_K Try.underlying30 fits42 h8
  obtain ⟨lo, ⟨Ao, co, eO, hco, hO⟩, _⟩ := slice_K Try.underlying31 fits69 ho
  simp only [z27, z33, z28, z30, z31, z2, z4] at hwm hver hon hst eI eO
  refine ⟨ver, wm, on, st, Ai, ci, li, Ao, co, lo, ⟨hz.trans z55, ?_, ?_, ?_, ?_, ?_, ?_⟩, hI, hci, hO⟩
  · have := cell_in (by decide) (cell_of (v := .int .i64 wm) hwm); simpa using this
  · have := cell_of (v := .int .u32 ver) hver; simpa using this
  · have := cell_of eI; simpa using this
  · have := cell_of eO; simpa using this
  · have := cell_in (by decide) (cell_of (v := .bool on) hon); simpa using this
  · have := cell_in (by decide) (cell_of (v := .bool st) hst); simpa using this
set_option maxRecDepth 100000 in
set_option maxHeartbeats 4000000 in
theorem lifted (os : Os) (started : os.Started) (H : Type) (enc : TypeId × Value → H) :
    ReturnsInHanded {} Try.checked os 3 .any (Rows.warmMuchSpec.pre6 enc Try.prog Try.f3 Rows.warmMuchRow.domain false) (Rows.warmMuchSpec.post enc Try.prog Try.f3 false true false false) := by
  refine returnsInHanded_of_change_sized (C := Try.checked) own started (by kernel_rfl) Try.func3
    (ChangeSpec.witness6 (enc := enc) (C := Try.checked) false ⟨#[], #[.agg #[.slice none 0 0, .int .u8 0, .int .i64 0, .bool false, .int .i64 0, .int .i64 0, .int .i64 0, .int .i64 0, .int .i64 0, .int .i64 0, .int .u64 0, .int .u64 0, .int .u64 0, .int .u64 0, .int .u64 0, .int .u64 0, .bool false, .int .i64 0, .slice none 0 0, .slice none 0 0, .slice none 0 0, .int .u8 0, .int .i64 0, .bool false, .int .i64 0, .int .i64 0, .int .i64 0, .int .i64 0, .int .i64 0, .int .i64 0, .int .u64 0, .int .u64 0, .int .u64 0, .int .u64 0, .int .u64 0, .int .u64 0, .bool false, .int .i64 0, .slice none 0 0, .slice none 0 0, .int .u32 0, .int .u64 0, .int .i64 0, .int .u64 0, .int .u64 0, .slice none 0 0, .slice none 0 0, .slice none 0 0, .bool false, .int .i64 0, .int .i64 0, .int .i64 0, .bool false, .bool false, .slice none 0 0], .bool false], []⟩ 8 (by kernel_rfl) (by kernel_rfl) (by kernel_rfl) (by kernel_rfl)) ?_
  intro W base args ds gs before hval0 hW hcnd hsz0 _
  have hval : ∀ (j : Nat) t v, Try.f3.params[j]? = some t → args[j]? = some v → Value.okWide Try.prog W .any base t v := hval0
  have hW' := hW
  obtain ⟨p, q, hA0, hV, rfl, hfz, hnd⟩ := hW
  have hA : DataW.TrodAll enc Try.prog W 0 (fun _ => true) true Try.f3.params.toList args.toList ds p := hA0
  rw [Try.params3] at hA hval
  obtain ⟨v0, vs0, d0, ds0, p0, q0, hargs, rfl, rfl, h0, r0⟩ := trodAll_cons hA
  obtain ⟨v1, vs1, d1, ds1, p1, q1, rfl, rfl, rfl, h1, r1⟩ := trodAll_cons r0
  obtain ⟨rfl, rfl, rfl⟩ := trodAll_nil r1
  obtain rfl : args = #[v0, v1] := by cases args; simp_all
  obtain ⟨rfl, rfl⟩ := trodVars_none hV
  have k0 := h0
  have lt0 : ∀ x ∈ p0, x.block < W.heap.size := by obtain ⟨m, hm⟩ := k0; exact DataW.trod_lt m _ _ _ hm
  obtain ⟨S, rfl, hz⟩ := okWide_struct Try.underlying36 (hval 0 36 v0 rfl rfl)
  obtain ⟨ver, wm, on, st, Ai, ci, li, Ao, co, lo, hS, hI, hci, hO⟩ := (show ∃ (ver wm : Int) (on st : Bool) (Ai : Option Addr) (ci : Nat) (li : List S42) (Ao : Option Addr) (co : Nat) (lo : List S69), ST S ver wm on st Ai ci li Ao co lo ∧ Kd.C k42 W Ai li.length li ∧ li.length ≤ ci ∧ Kd.C k69 W Ao lo.length lo from by
    obtain ⟨fuel, hf⟩ := h0
    exact state hz hf)
  obtain ⟨a1, rfl, rfl, rfl⟩ := open_bool Try.underlying4 (hval 1 4 v1 rfl rfl) h1
  clear hA0 hval0 hsz0
  refine (WarmMuch.calls S ver wm on st Ai ci li Ao co lo hS a1 W hI hci hO).mono ?_
  rintro e W' ⟨rfl, bel⟩
  exact ⟨_, rfl, _, _, _, [], _, [], hW', trodAll_mk1 (shut_bool Try.underlying4 _), (trodAll_cons_mk (Below.trod laidOut (by kernel_rfl) (of_decide_eq_true (by kernel_rfl)) k0 bel lt0) (trodAll_cons_mk (shut_bool Try.underlying4 _) trodAll_mk0)), rfl, bel.frame _, fun h => by cases h⟩
theorem over : Rows.warmMuchRow.holds Try.pinned (OpenSpec.ofChange Rows.warmMuchSpec) :=
  OpenClaim.holds_of_wide 3 Try.f3 rfl rfl rfl rfl rfl rfl rfl ⟨rfl, rfl, rfl, rfl, rfl⟩ rfl rfl rfl rfl rfl (by kernel_rfl) Try.func3 (by kernel_rfl)
    (of_decide_eq_true (by kernel_rfl)) (by unfold Func.isWrapper; first | (rw [if_pos (by decide +kernel)]; kernel_rfl) | (rw [if_neg (by decide +kernel)]; exact ⟨rfl, rfl⟩))
    (fun os started H enc _ => lifted os started H enc)
theorem proved : Rows.WarmMuchSaid := over
end Go.Proofs.Ytglpedacanjpbaa.warmMuch
namespace Go.Proofs.Ytglpedacanjpbaa
/-- The row, under a short name, for the claim. -/
theorem warmMuch_holds : Rows.WarmMuchSaid := warmMuch.proved
end Go.Proofs.Ytglpedacanjpbaa
