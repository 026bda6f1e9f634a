/- The search among two instances. No condition. -/
import Derived.Test.YthphdhhogdhmeaaW1
import Derived.Laws.CopyOwn
import Derived.ChangeKeysEq
import Derived.Deep.RegionHeld3
import Derived.Deep.MidRow
import Derived.Shelf.Abstract
namespace Go.Proofs.Ythphdhhogdhmeaa.GA
open Go.RowKit Go.Shelf Go.Proofs.YthphdhhogdhmeaaW.PrintWords Go.Proofs.YthphdhhogdhmeaaW.PrintLast Go.Proofs.YthphdhhogdhmeaaW.PrintMore
set_option linter.unusedVariables false
set_option linter.unusedSimpArgs false

theorem isNaN.calls (x : Int) (w : World) : Calls Try.prog 27 #[.int .u64 x] w fun e w' => e = .returned (.bool false) ∧ w' = w := by
  go_enter Try.func27, Try.ntmps27
  go_wp2
  go_ret
  exact ⟨rfl, rfl⟩
def cmpI (x y : Int) : Int := if x < y then -1 else if y < x then 1 else 0

set_option maxHeartbeats 8000000 in
set_option maxRecDepth 100000 in
theorem Compare.calls (x y : Int) (w : World) : Calls Try.prog 24 #[.int .u64 x, .int .u64 y] w fun e w' => e = .returned (.int .i64 (cmpI x y)) ∧ w' = w := by
  obtain ⟨r, hr⟩ : ∃ r, cmpI x y = r := ⟨_, rfl⟩
  rw [hr]
  unfold cmpI at hr
  by_cases h1 : x < y
  · rw [if_pos h1] at hr
    subst hr
    have d1 := decide_eq_true h1
    go_enter Try.func24, Try.ntmps24
    go_wp2_with (first
      | (go_at_call 27; with_reducible refine (isNaN.calls x _).mono ?_; rintro e w' ⟨rfl, hw⟩; subst w')
      | (go_at_call 27; with_reducible refine (isNaN.calls y _).mono ?_; rintro e w' ⟨rfl, hw⟩; subst w'))
    go_ret
    exact ⟨rfl, rfl⟩
  · rw [if_neg h1] at hr
    have d1 := decide_eq_false h1
    by_cases h2 : y < x
    · rw [if_pos h2] at hr
      subst hr
      have d2 := decide_eq_true h2
      clear h1
      go_enter Try.func24, Try.ntmps24
      go_wp2_with (first
        | (go_at_call 27; with_reducible refine (isNaN.calls x _).mono ?_; rintro e w' ⟨rfl, hw⟩; subst w')
        | (go_at_call 27; with_reducible refine (isNaN.calls y _).mono ?_; rintro e w' ⟨rfl, hw⟩; subst w'))
      go_ret
      exact ⟨rfl, rfl⟩
    · rw [if_neg h2] at hr
      subst hr
      have d2 := decide_eq_false h2
      clear h1 h2
      go_enter Try.func24, Try.ntmps24
      go_wp2_with (first
        | (go_at_call 27; with_reducible refine (isNaN.calls x _).mono ?_; rintro e w' ⟨rfl, hw⟩; subst w')
        | (go_at_call 27; with_reducible refine (isNaN.calls y _).mono ?_; rintro e w' ⟨rfl, hw⟩; subst w'))
      go_ret
      exact ⟨rfl, rfl⟩

set_option maxHeartbeats 8000000 in
set_option maxRecDepth 100000 in
theorem find1.calls (x : S29) (id r : Int) (w : World) (h : cmpI x.f0 id = r) : Calls Try.prog 23 #[.agg #[.int .u64 x.f0, .int .u64 x.f1, .int .i64 x.f2, .int .i64 x.f3, .bool x.f4, .int .u8 x.f5, .int .u64 x.f6, .bool x.f7, .int .u64 x.f8, .bool x.f9, .bool x.f10, .int .u32 x.f11], .int .u64 id] w fun e w' => e = .returned (.int .i64 r) ∧ Below w.heap.size w w' := by
  have HB := Aside0.mk (Below.refl w.heap.size w)
  have H := Aside0.mk h
  clear h
  go_enter Try.func23, Try.ntmps23
  go_wp2_with (first
    | (go_at_call 24; with_reducible refine (Compare.calls x.f0 id _).mono ?_; rw [H.out]; rintro e w' ⟨rfl, hw⟩; subst w'))
  go_ret
  exact ⟨rfl, by repeat (first | (with_reducible first | exact HB.out | apply below_alloc | apply pw_below_drewN | apply below_drew1) | exact HB.out)⟩

def twoL : List S29 := [(⟨1, 0, 0, 2, false, 3, 0, false, 0, false, false, 0⟩ : S29), (⟨2, 0, 0, 3, true, 1, 0, false, 0, false, false, 0⟩ : S29)]
theorem two0 : rd_T29 twoL 0 = (⟨1, 0, 0, 2, false, 3, 0, false, 0, false, false, 0⟩ : S29) := rfl
theorem two1 : rd_T29 twoL 1 = (⟨2, 0, 0, 3, true, 1, 0, false, 0, false, false, 0⟩ : S29) := rfl

set_option maxHeartbeats 8000000 in
set_option maxRecDepth 100000 in
theorem search2.calls (g c : Nat) (w : World) (hl : Kd.C k29 w (some ⟨g, 0, none⟩) twoL.length twoL) (hc : twoL.length ≤ c) : Calls Try.prog 22 #[.slice (some ⟨g, 0, none⟩) twoL.length c, .int .u64 2, .func (.func 23) #[] #[]] w fun e w' => e = .returned (.tuple #[.int .i64 1, .bool true]) ∧ Below w.heap.size w w' := by
  have HB := Aside0.mk (Below.refl w.heap.size w)
  have HL := Aside0.mk hl
  clear hl
  have hu29 := Try.underlying29
  have hn : twoL.length = 2 := rfl
  rw [hn] at hc ⊢
  go_enter Try.func22, Try.ntmps22
  go_wp2
  go_loopw [9, 10] (fun v9 v10 w' => ((v9 = .int .i64 0 ∧ v10 = .int .i64 2) ∨ (v9 = .int .i64 0 ∧ v10 = .int .i64 1) ∨ (v9 = .int .i64 1 ∧ v10 = .int .i64 1)) ∧ Aside0 (Below w.heap.size w w')) (fun v9 v10 _ => (intOf v10 - intOf v9).toNat)
  case atStart => exact ⟨.inl ⟨rfl, rfl⟩, HB⟩
  case round =>
    clear HB
    obtain ⟨hs, HB⟩ := hrel
    obtain ⟨ad, e, p0, p1, p2, p3, p4, p5, p6, p7, p8, p9, p10, p11⟩ := at_T29 (Kd.C_below HL.out HB.out) 0 (by decide) (by decide)
    cases e
    obtain ⟨ad', e, q0, q1, q2, q3, q4, q5, q6, q7, q8, q9, q10, q11⟩ := at_T29 (Kd.C_below HL.out HB.out) 1 (by decide) (by decide)
    cases e
    replace p0 : wr.cell? ⟨g, 0, none⟩ = some (.int .u64 1) := p0
    replace p1 : wr.cell? ⟨g, 1, none⟩ = some (.int .u64 0) := p1
    replace p2 : wr.cell? ⟨g, 2, none⟩ = some (.int .i64 0) := p2
    replace p3 : wr.cell? ⟨g, 3, none⟩ = some (.int .i64 2) := p3
    replace p4 : wr.cell? ⟨g, 4, none⟩ = some (.bool false) := p4
    replace p5 : wr.cell? ⟨g, 5, none⟩ = some (.int .u8 3) := p5
    replace p6 : wr.cell? ⟨g, 6, none⟩ = some (.int .u64 0) := p6
    replace p7 : wr.cell? ⟨g, 7, none⟩ = some (.bool false) := p7
    replace p8 : wr.cell? ⟨g, 8, none⟩ = some (.int .u64 0) := p8
    replace p9 : wr.cell? ⟨g, 9, none⟩ = some (.bool false) := p9
    replace p10 : wr.cell? ⟨g, 10, none⟩ = some (.bool false) := p10
    replace p11 : wr.cell? ⟨g, 11, none⟩ = some (.int .u32 0) := p11
    replace q0 : wr.cell? ⟨g, 12, none⟩ = some (.int .u64 2) := q0
    replace q1 : wr.cell? ⟨g, 13, none⟩ = some (.int .u64 0) := q1
    replace q2 : wr.cell? ⟨g, 14, none⟩ = some (.int .i64 0) := q2
    replace q3 : wr.cell? ⟨g, 15, none⟩ = some (.int .i64 3) := q3
    replace q4 : wr.cell? ⟨g, 16, none⟩ = some (.bool true) := q4
    replace q5 : wr.cell? ⟨g, 17, none⟩ = some (.int .u8 1) := q5
    replace q6 : wr.cell? ⟨g, 18, none⟩ = some (.int .u64 0) := q6
    replace q7 : wr.cell? ⟨g, 19, none⟩ = some (.bool false) := q7
    replace q8 : wr.cell? ⟨g, 20, none⟩ = some (.int .u64 0) := q8
    replace q9 : wr.cell? ⟨g, 21, none⟩ = some (.bool false) := q9
    replace q10 : wr.cell? ⟨g, 22, none⟩ = some (.bool false) := q10
    replace q11 : wr.cell? ⟨g, 23, none⟩ = some (.int .u32 0) := q11
    rcases hs with ⟨rfl, rfl⟩ | ⟨rfl, rfl⟩ | ⟨rfl, rfl⟩
    · go_wp2_with ((go_at_call 23; with_reducible refine (find1.calls (⟨2, 0, 0, 3, true, 1, 0, false, 0, false, false, 0⟩ : S29) 2 (0) _ rfl).mono ?_; rintro e w' ⟨rfl, hb⟩; have n0_ := Aside0.mk (below_step (by repeat (first | (with_reducible first | exact HB.out | apply below_alloc | apply pw_below_drewN | apply below_drew1) | exact HB.out)) hb); clear HB; have HB := n0_; clear n0_ hb))
      go_roundw
      case rel => exact ⟨.inr (.inl ⟨rfl, rfl⟩), HB⟩
      case measure => decide
    · go_wp2_with ((go_at_call 23; with_reducible refine (find1.calls (⟨1, 0, 0, 2, false, 3, 0, false, 0, false, false, 0⟩ : S29) 2 (-1) _ rfl).mono ?_; rintro e w' ⟨rfl, hb⟩; have n0_ := Aside0.mk (below_step (by repeat (first | (with_reducible first | exact HB.out | apply below_alloc | apply pw_below_drewN | apply below_drew1) | exact HB.out)) hb); clear HB; have HB := n0_; clear n0_ hb))
      go_roundw
      case rel => exact ⟨.inr (.inr (⟨rfl, rfl⟩)), HB⟩
      case measure => decide
    · go_wp2_with ((go_at_call 23; with_reducible refine (find1.calls (⟨2, 0, 0, 3, true, 1, 0, false, 0, false, false, 0⟩ : S29) 2 (0) _ rfl).mono ?_; rintro e w' ⟨rfl, hb⟩; have n0_ := Aside0.mk (below_step (by repeat (first | (with_reducible first | exact HB.out | apply below_alloc | apply pw_below_drewN | apply below_drew1) | exact HB.out)) hb); clear HB; have HB := n0_; clear n0_ hb))
      go_ret2
      exact ⟨rfl, HB.out⟩

set_option maxHeartbeats 8000000 in
set_option maxRecDepth 100000 in
theorem search7.calls (g c : Nat) (w : World) (hl : Kd.C k29 w (some ⟨g, 0, none⟩) twoL.length twoL) (hc : twoL.length ≤ c) : Calls Try.prog 22 #[.slice (some ⟨g, 0, none⟩) twoL.length c, .int .u64 7, .func (.func 23) #[] #[]] w fun e w' => e = .returned (.tuple #[.int .i64 2, .bool false]) ∧ Below w.heap.size w w' := by
  have HB := Aside0.mk (Below.refl w.heap.size w)
  have HL := Aside0.mk hl
  clear hl
  have hu29 := Try.underlying29
  have hn : twoL.length = 2 := rfl
  rw [hn] at hc ⊢
  go_enter Try.func22, Try.ntmps22
  go_wp2
  go_loopw [9, 10] (fun v9 v10 w' => ((v9 = .int .i64 0 ∧ v10 = .int .i64 2) ∨ (v9 = .int .i64 2 ∧ v10 = .int .i64 2)) ∧ Aside0 (Below w.heap.size w w')) (fun v9 v10 _ => (intOf v10 - intOf v9).toNat)
  case atStart => exact ⟨.inl ⟨rfl, rfl⟩, HB⟩
  case round =>
    clear HB
    obtain ⟨hs, HB⟩ := hrel
    obtain ⟨ad, e, p0, p1, p2, p3, p4, p5, p6, p7, p8, p9, p10, p11⟩ := at_T29 (Kd.C_below HL.out HB.out) 0 (by decide) (by decide)
    cases e
    obtain ⟨ad', e, q0, q1, q2, q3, q4, q5, q6, q7, q8, q9, q10, q11⟩ := at_T29 (Kd.C_below HL.out HB.out) 1 (by decide) (by decide)
    cases e
    replace p0 : wr.cell? ⟨g, 0, none⟩ = some (.int .u64 1) := p0
    replace p1 : wr.cell? ⟨g, 1, none⟩ = some (.int .u64 0) := p1
    replace p2 : wr.cell? ⟨g, 2, none⟩ = some (.int .i64 0) := p2
    replace p3 : wr.cell? ⟨g, 3, none⟩ = some (.int .i64 2) := p3
    replace p4 : wr.cell? ⟨g, 4, none⟩ = some (.bool false) := p4
    replace p5 : wr.cell? ⟨g, 5, none⟩ = some (.int .u8 3) := p5
    replace p6 : wr.cell? ⟨g, 6, none⟩ = some (.int .u64 0) := p6
    replace p7 : wr.cell? ⟨g, 7, none⟩ = some (.bool false) := p7
    replace p8 : wr.cell? ⟨g, 8, none⟩ = some (.int .u64 0) := p8
    replace p9 : wr.cell? ⟨g, 9, none⟩ = some (.bool false) := p9
    replace p10 : wr.cell? ⟨g, 10, none⟩ = some (.bool false) := p10
    replace p11 : wr.cell? ⟨g, 11, none⟩ = some (.int .u32 0) := p11
    replace q0 : wr.cell? ⟨g, 12, none⟩ = some (.int .u64 2) := q0
    replace q1 : wr.cell? ⟨g, 13, none⟩ = some (.int .u64 0) := q1
    replace q2 : wr.cell? ⟨g, 14, none⟩ = some (.int .i64 0) := q2
    replace q3 : wr.cell? ⟨g, 15, none⟩ = some (.int .i64 3) := q3
    replace q4 : wr.cell? ⟨g, 16, none⟩ = some (.bool true) := q4
    replace q5 : wr.cell? ⟨g, 17, none⟩ = some (.int .u8 1) := q5
    replace q6 : wr.cell? ⟨g, 18, none⟩ = some (.int .u64 0) := q6
    replace q7 : wr.cell? ⟨g, 19, none⟩ = some (.bool false) := q7
    replace q8 : wr.cell? ⟨g, 20, none⟩ = some (.int .u64 0) := q8
    replace q9 : wr.cell? ⟨g, 21, none⟩ = some (.bool false) := q9
    replace q10 : wr.cell? ⟨g, 22, none⟩ = some (.bool false) := q10
    replace q11 : wr.cell? ⟨g, 23, none⟩ = some (.int .u32 0) := q11
    rcases hs with ⟨rfl, rfl⟩ | ⟨rfl, rfl⟩
    · go_wp2_with ((go_at_call 23; with_reducible refine (find1.calls (⟨2, 0, 0, 3, true, 1, 0, false, 0, false, false, 0⟩ : S29) 7 (-1) _ rfl).mono ?_; rintro e w' ⟨rfl, hb⟩; have n0_ := Aside0.mk (below_step (by repeat (first | (with_reducible first | exact HB.out | apply below_alloc | apply pw_below_drewN | apply below_drew1) | exact HB.out)) hb); clear HB; have HB := n0_; clear n0_ hb))
      go_roundw
      case rel => exact ⟨.inr (⟨rfl, rfl⟩), HB⟩
      case measure => decide
    · go_wp2
      go_ret2
      exact ⟨rfl, HB.out⟩

set_option maxHeartbeats 8000000 in
set_option maxRecDepth 100000 in
theorem find12.calls (g c : Nat) (w : World) (hl : Kd.C k29 w (some ⟨g, 0, none⟩) twoL.length twoL) (hc : twoL.length ≤ c) : Calls Try.prog 17 #[.slice (some ⟨g, 0, none⟩) twoL.length c, .int .u64 2] w fun e w' => e = .returned (.tuple #[.int .i64 1, .bool true]) ∧ Below w.heap.size w w' := by
  have HB := Aside0.mk (Below.refl w.heap.size w)
  have HL := Aside0.mk hl
  have HC := Aside0.mk hc
  clear hl hc
  go_enter Try.func17, Try.ntmps17
  go_wp2_with (first
    | (go_at_call 22; with_reducible refine (search2.calls g c _ (Kd.C_below HL.out (by repeat (first | (with_reducible first | exact HB.out | apply below_alloc | apply pw_below_drewN | apply below_drew1) | exact HB.out))) HC.out).mono ?_; rintro e w' ⟨rfl, hb⟩; have n0_ := Aside0.mk (below_step (by repeat (first | (with_reducible first | exact HB.out | apply below_alloc | apply pw_below_drewN | apply below_drew1) | exact HB.out)) hb); clear HB; have HB := n0_; clear n0_ hb))
  go_ret2
  exact ⟨rfl, by repeat (first | (with_reducible first | exact HB.out | apply below_alloc | apply pw_below_drewN | apply below_drew1) | exact HB.out)⟩

set_option maxHeartbeats 8000000 in
set_option maxRecDepth 100000 in
theorem find17.calls (g c : Nat) (w : World) (hl : Kd.C k29 w (some ⟨g, 0, none⟩) twoL.length twoL) (hc : twoL.length ≤ c) : Calls Try.prog 17 #[.slice (some ⟨g, 0, none⟩) twoL.length c, .int .u64 7] w fun e w' => e = .returned (.tuple #[.int .i64 2, .bool false]) ∧ Below w.heap.size w w' := by
  have HB := Aside0.mk (Below.refl w.heap.size w)
  have HL := Aside0.mk hl
  have HC := Aside0.mk hc
  clear hl hc
  go_enter Try.func17, Try.ntmps17
  go_wp2_with (first
    | (go_at_call 22; with_reducible refine (search7.calls g c _ (Kd.C_below HL.out (by repeat (first | (with_reducible first | exact HB.out | apply below_alloc | apply pw_below_drewN | apply below_drew1) | exact HB.out))) HC.out).mono ?_; rintro e w' ⟨rfl, hb⟩; have n0_ := Aside0.mk (below_step (by repeat (first | (with_reducible first | exact HB.out | apply below_alloc | apply pw_below_drewN | apply below_drew1) | exact HB.out)) hb); clear HB; have HB := n0_; clear n0_ hb))
  go_ret2
  exact ⟨rfl, by repeat (first | (with_reducible first | exact HB.out | apply below_alloc | apply pw_below_drewN | apply below_drew1) | exact HB.out)⟩

end Go.Proofs.Ythphdhhogdhmeaa.GA
