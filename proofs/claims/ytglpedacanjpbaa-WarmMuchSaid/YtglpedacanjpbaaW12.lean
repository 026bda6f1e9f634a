/- What the law lives by. No condition. -/
import Derived.Test.YtglpedacanjpbaaW11
import Derived.Laws.CopyOwn
import Derived.ChangeKeysEq
import Derived.Deep.RegionHeld3
import Derived.Deep.MidRow
import Derived.Shelf.Abstract
namespace Go.Proofs.Ytglpedacanjpbaa.GA
open Go.RowKit Go.Shelf Go.Proofs.YtglpedacanjpbaaW.PrintWords Go.Proofs.YtglpedacanjpbaaW.PrintLast Go.Proofs.YtglpedacanjpbaaW.PrintMore
set_option linter.unusedVariables false
set_option linter.unusedSimpArgs false

theorem lv1 : drawR 1 3 false false threeL true = (1, true) := by kernel_rfl
theorem lv2 : drawR 1 3 false false threeL false = (2, true) := by kernel_rfl
theorem lv3 : muchR 1 3 false false threeL [] = (1, true) := by kernel_rfl
theorem lv4 : muchR 1 5 false false threeL [] = (0, false) := by kernel_rfl
theorem lv5 : little 1 3 false false threeL [] = false := by kernel_rfl
theorem lv6 : little 1 7 false false threeL [] = true := by kernel_rfl

set_option maxHeartbeats 8000000 in
set_option maxRecDepth 100000 in
theorem lives.calls (w : World) : Calls Try.prog 5 #[] w fun e w' => e = .returned (.bool true) ∧ Below w.heap.size w w' := by
  have HB := Aside0.mk (Below.refl w.heap.size w)
  go_enter Try.func5, Try.ntmps5
  go_wp2_with (first
    | (go_at_call 12; with_reducible refine (three.calls 3 _).mono ?_; rintro e w' ⟨A, c, rfl, hk, hkc, hb⟩; have HK := Aside0.mk hk; have HKC := Aside0.mk hkc; clear hk hkc; have n0_ := Aside0.mk (below_step (by repeat (first | (with_reducible first | exact HB.out | apply below_alloc | apply pw_below_drewN | apply below_drew1) | exact HB.out)) hb); clear HB; have HB := n0_; clear n0_ hb)
    | (go_at_call 12; with_reducible refine (three.calls 5 _).mono ?_; rintro e w' ⟨A, c, rfl, hk, hkc, hb⟩; have HK := Aside0.mk hk; have HKC := Aside0.mk hkc; clear hk hkc; have n0_ := Aside0.mk (below_step (by repeat (first | (with_reducible first | exact HB.out | apply below_alloc | apply pw_below_drewN | apply below_drew1) | exact HB.out)) hb); clear HB; have HB := n0_; clear n0_ hb)
    | (go_at_call 12; with_reducible refine (three.calls 7 _).mono ?_; rintro e w' ⟨A, c, rfl, hk, hkc, hb⟩; have HK := Aside0.mk hk; have HKC := Aside0.mk hkc; clear hk hkc; have n0_ := Aside0.mk (below_step (by repeat (first | (with_reducible first | exact HB.out | apply below_alloc | apply pw_below_drewN | apply below_drew1) | exact HB.out)) hb); clear HB; have HB := n0_; clear n0_ hb)
    | (go_at_call 6; with_reducible refine (Draw.calls (three36 3 A c) 1 3 false false A c threeL none 0 [] (three36_ST 3 A c) true _ HK.out HKC.out (by decide)).mono ?_; rw [lv1]; rintro e w' ⟨rfl, hb⟩; have n0_ := Aside0.mk (below_step (by repeat (first | (with_reducible first | exact HB.out | apply below_alloc | apply pw_below_drewN | apply below_drew1) | exact HB.out)) hb); clear HB; have HB := n0_; clear n0_ hb)
    | (go_at_call 6; with_reducible refine (Draw.calls (three36 3 A c) 1 3 false false A c threeL none 0 [] (three36_ST 3 A c) false _ HK.out HKC.out (by decide)).mono ?_; rw [lv2]; rintro e w' ⟨rfl, hb⟩; have n0_ := Aside0.mk (below_step (by repeat (first | (with_reducible first | exact HB.out | apply below_alloc | apply pw_below_drewN | apply below_drew1) | exact HB.out)) hb); clear HB; have HB := n0_; clear n0_ hb)
    | (go_at_call 9; with_reducible refine (Much.calls (three36 3 A c) 1 3 false false A c threeL none 0 [] (three36_ST 3 A c) _ HK.out HKC.out (Kd.C_nil _ _) (by decide) (by decide)).mono ?_; rw [lv3]; rintro e w' ⟨rfl, hb⟩; have n0_ := Aside0.mk (below_step (by repeat (first | (with_reducible first | exact HB.out | apply below_alloc | apply pw_below_drewN | apply below_drew1) | exact HB.out)) hb); clear HB; have HB := n0_; clear n0_ hb)
    | (go_at_call 9; with_reducible refine (Much.calls (three36 5 A c) 1 5 false false A c threeL none 0 [] (three36_ST 5 A c) _ HK.out HKC.out (Kd.C_nil _ _) (by decide) (by decide)).mono ?_; rw [lv4]; rintro e w' ⟨rfl, hb⟩; have n0_ := Aside0.mk (below_step (by repeat (first | (with_reducible first | exact HB.out | apply below_alloc | apply pw_below_drewN | apply below_drew1) | exact HB.out)) hb); clear HB; have HB := n0_; clear n0_ hb)
    | (go_at_call 10; with_reducible refine (Little.calls (three36 3 A c) 1 3 false false A c threeL none 0 [] (three36_ST 3 A c) _ HK.out HKC.out (Kd.C_nil _ _) (by decide)).mono ?_; rw [lv5]; rintro e w' ⟨rfl, hb⟩; have n0_ := Aside0.mk (below_step (by repeat (first | (with_reducible first | exact HB.out | apply below_alloc | apply pw_below_drewN | apply below_drew1) | exact HB.out)) hb); clear HB; have HB := n0_; clear n0_ hb)
    | (go_at_call 10; with_reducible refine (Little.calls (three36 7 A c) 1 7 false false A c threeL none 0 [] (three36_ST 7 A c) _ HK.out HKC.out (Kd.C_nil _ _) (by decide)).mono ?_; rw [lv6]; rintro e w' ⟨rfl, hb⟩; have n0_ := Aside0.mk (below_step (by repeat (first | (with_reducible first | exact HB.out | apply below_alloc | apply pw_below_drewN | apply below_drew1) | exact HB.out)) hb); clear HB; have HB := n0_; clear n0_ hb))
  go_ret
  exact ⟨rfl, by repeat (first | (with_reducible first | exact HB.out | apply below_alloc | apply pw_below_drewN | apply below_drew1) | exact HB.out)⟩

end Go.Proofs.Ytglpedacanjpbaa.GA
