/- The law of the sums, walked. No condition. -/
import Derived.Test.YthphdhhogdhmeaaS6
import Derived.Laws.CopyOwn
import Derived.ChangeKeysEq
import Derived.Deep.RegionHeld3
import Derived.Deep.MidRow
import Derived.Shelf.Abstract
namespace Go.Proofs.Ythphdhhogdhmeaa.GA
open Go.RowKit Go.Shelf Go.Proofs.YthphdhhogdhmeaaW.PrintWords Go.Proofs.YthphdhhogdhmeaaW.PrintLast Go.Proofs.YthphdhhogdhmeaaW.PrintMore
set_option linter.unusedVariables false
set_option linter.unusedSimpArgs false

set_option maxHeartbeats 8000000 in
set_option maxRecDepth 100000 in
theorem SumsParts.calls (A : Option Addr) (c : Nat) (l : List S29) (Ao : Option Addr) (co : Nat) (lo : List S33) (w : World) (hl : Kd.C k29 w A l.length l) (hc : l.length ≤ c) (hlo : Kd.C k33 w Ao lo.length lo) (hv : ∀ x ∈ l, 0 ≤ x.f11) (hw : ∀ x ∈ lo, 0 ≤ x.f4) :
    Calls Try.prog 3 #[.slice A l.length c, .slice Ao lo.length co] w fun e w' => e = .returned (.bool true) ∧ Below w.heap.size w w' := by
  by_cases h1 : l.length ≤ 100
  · by_cases h2 : lo.length ≤ 100
    · cases hm : mayL l
      · have g1 : decide (100 < (l.length : Int)) = false := decide_eq_false (by omega)
        have g2 : decide (100 < (lo.length : Int)) = false := decide_eq_false (by omega)
        have HMY := Aside0.mk hm
        have HL := Aside0.mk hl
        have HC := Aside0.mk hc
        have HB := Aside0.mk (Below.refl w.heap.size w)
        clear hl hc hlo hv hw hm
        go_enter Try.func3, Try.ntmps3
        go_wp2_with (first
          | (go_at_call 4; with_reducible refine (May.calls A c l _ (Kd.C_below HL.out (by repeat (first | (with_reducible first | exact HB.out | apply below_alloc | apply pw_below_drewN | apply below_drew1) | exact HB.out))) HC.out).mono ?_; rw [HMY.out]; rintro e w' ⟨rfl, hb⟩; have n0_ := Aside0.mk (below_step (by repeat (first | (with_reducible first | exact HB.out | apply below_alloc | apply pw_below_drewN | apply below_drew1) | exact HB.out)) hb); clear HB; have HB := n0_; clear n0_ hb)
          | (go_at_call 5; with_reducible refine (lives.calls _).mono ?_; rintro e w' ⟨rfl, hb⟩; have n0_ := Aside0.mk (below_step (by repeat (first | (with_reducible first | exact HB.out | apply below_alloc | apply pw_below_drewN | apply below_drew1) | exact HB.out)) hb); clear HB; have HB := n0_; clear n0_ hb))
        go_ret
        exact ⟨rfl, by repeat (first | (with_reducible first | exact HB.out | apply below_alloc | apply pw_below_drewN | apply below_drew1) | exact HB.out)⟩

      · have ma := mayL_fix hm
        have hA : ∀ x ∈ updA l l.length, okI x = true := may_ok _ 0 (Bool.and_eq_true_iff.1 ma).2
        have la : (updA l l.length).length ≤ 100 := by rw [updA_all, List.length_map]; exact h1
        have lb : (updB lo lo.length).length ≤ 100 := by rw [updB_all, List.length_map]; exact h2
        have vA : ∀ x ∈ updA l l.length, 1 ≤ x.f11 ∧ x.f11 ≤ 4 := fun x hx => by
          rw [updA_all] at hx
          obtain ⟨y, hy, rfl⟩ := List.mem_map.1 hx
          exact ver_ok (hv y hy)
        have vB : ∀ x ∈ updB lo lo.length, 1 ≤ x.f4 ∧ x.f4 ≤ 4 := fun x hx => by
          rw [updB_all] at hx
          obtain ⟨y, hy, rfl⟩ := List.mem_map.1 hx
          exact ver_ok (hw y hy)
        exact SumsParts.main A c l Ao co lo w hl hc hlo h1 h2 hm ma (all_four hA la lb vA vB) (demand_live hA la lb) (demand_coming hA la lb)
    · have g1 : decide (100 < (l.length : Int)) = false := decide_eq_false (by omega)
      have g2 : decide (100 < (lo.length : Int)) = true := decide_eq_true (by omega)
      have HB := Aside0.mk (Below.refl w.heap.size w)
      clear hl hc hlo hv hw
      go_enter Try.func3, Try.ntmps3
      go_wp2_with (first
        | (go_at_call 5; with_reducible refine (lives.calls _).mono ?_; rintro e w' ⟨rfl, hb⟩; have n0_ := Aside0.mk (below_step (by repeat (first | (with_reducible first | exact HB.out | apply below_alloc | apply pw_below_drewN | apply below_drew1) | exact HB.out)) hb); clear HB; have HB := n0_; clear n0_ hb))
      go_ret
      exact ⟨rfl, by repeat (first | (with_reducible first | exact HB.out | apply below_alloc | apply pw_below_drewN | apply below_drew1) | exact HB.out)⟩

  · have g1 : decide (100 < (l.length : Int)) = true := decide_eq_true (by omega)
    have HB := Aside0.mk (Below.refl w.heap.size w)
    clear hl hc hlo hv hw
    go_enter Try.func3, Try.ntmps3
    go_wp2_with (first
      | (go_at_call 5; with_reducible refine (lives.calls _).mono ?_; rintro e w' ⟨rfl, hb⟩; have n0_ := Aside0.mk (below_step (by repeat (first | (with_reducible first | exact HB.out | apply below_alloc | apply pw_below_drewN | apply below_drew1) | exact HB.out)) hb); clear HB; have HB := n0_; clear n0_ hb))
    go_ret
    exact ⟨rfl, by repeat (first | (with_reducible first | exact HB.out | apply below_alloc | apply pw_below_drewN | apply below_drew1) | exact HB.out)⟩


end Go.Proofs.Ythphdhhogdhmeaa.GA
