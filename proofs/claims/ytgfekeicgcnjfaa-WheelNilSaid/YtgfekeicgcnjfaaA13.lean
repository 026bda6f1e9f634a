/- WheelNil, walked. No condition. -/
import Derived.Test.YtgfekeicgcnjfaaA12
import Derived.Laws.CopyOwn
import Derived.Laws.CopyRow
import Derived.ChangeKeysEq
import Derived.Deep.RegionHeld3
import Derived.Deep.MidRow
import Derived.Shelf.Abstract
import Derived.Lib.Overlaps
import Derived.Lib.AppendZerosOnto
import Derived.Shelf.Spec.SlicesInsertGrow
import Derived.Maps.OwnSet
import Derived.WalkSpells
namespace Go.Proofs.Ytgfekeicgcnjfaa.GA
open Go.RowKit Go.Shelf Go.Proofs.YtgfekeicgcnjfaaW.PrintWords Go.Proofs.YtgfekeicgcnjfaaW.PrintLast Go.Proofs.YtgfekeicgcnjfaaW.PrintMore
set_option linter.unusedVariables false
set_option linter.unusedSimpArgs false

set_option maxHeartbeats 8000000 in
set_option maxRecDepth 100000 in
theorem WheelNil.calls (k : ByteArray) (x : Int) (zero : Bool) (w : World) : Calls Try.prog 5 #[.string k, .int .u64 x, .bool zero] w fun e w' => e = .returned (.bool true) ∧ Below w.heap.size w w' := by
  cases zero with
  | false =>
    have HB := Aside0.mk (Below.refl w.heap.size w)
    have HZ : Aside0 (ZW w (.pointer none)) := ⟨.inl rfl⟩
    go_enter Try.func5, Try.ntmps5
    go_wp2_with (first | (go_at_call 21; with_reducible refine (When.zt _ k _ HZ.out).mono ?_; rintro e w' ⟨rfl, hb⟩; have n9_ := Aside0.mk (ZW.below (by with_reducible exact HZ.out) hb); have n8_ := Aside0.mk (below_step (by repeat (first | (with_reducible first | exact HB.out | apply below_alloc | apply pw_below_drewN | apply below_drew1) | exact HB.out)) hb); clear HZ HB hb; have HZ := n9_; have HB := n8_; clear n9_ n8_) | (go_at_call 23; with_reducible refine (Next.zt _ _ HZ.out).mono ?_; rintro e w' ⟨rfl, hb⟩; have n9_ := Aside0.mk (ZW.below (by with_reducible exact HZ.out) hb); have n8_ := Aside0.mk (below_step (by repeat (first | (with_reducible first | exact HB.out | apply below_alloc | apply pw_below_drewN | apply below_drew1) | exact HB.out)) hb); clear HZ HB hb; have HZ := n9_; have HB := n8_; clear n9_ n8_) | (go_at_call 14; with_reducible refine (Set.zt _ k x _ HZ.out).mono ?_; rintro e w' ⟨rfl, hb⟩; have n9_ := Aside0.mk (ZW.below (by with_reducible exact HZ.out) hb); have n8_ := Aside0.mk (below_step (by repeat (first | (with_reducible first | exact HB.out | apply below_alloc | apply pw_below_drewN | apply below_drew1) | exact HB.out)) hb); clear HZ HB hb; have HZ := n9_; have HB := n8_; clear n9_ n8_) | (go_at_call 16; with_reducible refine (Stop.zt _ k _ HZ.out).mono ?_; rintro e w' ⟨rfl, hb⟩; have n9_ := Aside0.mk (ZW.below (by with_reducible exact HZ.out) hb); have n8_ := Aside0.mk (below_step (by repeat (first | (with_reducible first | exact HB.out | apply below_alloc | apply pw_below_drewN | apply below_drew1) | exact HB.out)) hb); clear HZ HB hb; have HZ := n9_; have HB := n8_; clear n9_ n8_) | (go_at_call 19; with_reducible refine (Turn.zt _ x _ HZ.out).mono ?_; rintro e w' ⟨rfl, hb⟩; have n9_ := Aside0.mk (ZW.below (by with_reducible exact HZ.out) hb); have n8_ := Aside0.mk (below_step (by repeat (first | (with_reducible first | exact HB.out | apply below_alloc | apply pw_below_drewN | apply below_drew1) | exact HB.out)) hb); clear HZ HB hb; have HZ := n9_; have HB := n8_; clear n9_ n8_) | (go_at_call 25; with_reducible refine (Len.zt _ _ HZ.out).mono ?_; rintro e w' ⟨rfl, hb⟩; have n9_ := Aside0.mk (ZW.below (by with_reducible exact HZ.out) hb); have n8_ := Aside0.mk (below_step (by repeat (first | (with_reducible first | exact HB.out | apply below_alloc | apply pw_below_drewN | apply below_drew1) | exact HB.out)) hb); clear HZ HB hb; have HZ := n9_; have HB := n8_; clear n9_ n8_) | (go_at_call 11; with_reducible refine (lives.calls _).mono ?_; rintro e w' ⟨rfl, hb⟩; have n8_ := Aside0.mk (below_step (by repeat (first | (with_reducible first | exact HB.out | apply below_alloc | apply pw_below_drewN | apply below_drew1) | exact HB.out)) hb); clear HB hb; have HB := n8_; clear n8_))
    go_ret
    exact ⟨rfl, HB.out⟩
  | true =>
    go_enter Try.func5, Try.ntmps5
    go_upto_region 4 with (fail)
    have HB : Aside0 (Below w.heap.size w (w.alloc (.cells #[.int .i64 0, .slice none 0 0, .map none, .int .u64 0] 56))) := ⟨below_alloc (Below.refl _ _) _⟩
    have HZ : Aside0 (ZW (w.alloc (.cells #[.int .i64 0, .slice none 0 0, .map none, .int .u64 0] 56)) (.pointer (some ⟨w.heap.size, 0, none⟩))) := ⟨.inr ⟨_, rfl, blk_new w _⟩⟩
    go_wp2_with (first | (go_at_call 21; with_reducible refine (When.zt _ k _ HZ.out).mono ?_; rintro e w' ⟨rfl, hb⟩; have n9_ := Aside0.mk (ZW.below (by with_reducible exact HZ.out) hb); have n8_ := Aside0.mk (below_step (by repeat (first | (with_reducible first | exact HB.out | apply below_alloc | apply pw_below_drewN | apply below_drew1) | exact HB.out)) hb); clear HZ HB hb; have HZ := n9_; have HB := n8_; clear n9_ n8_) | (go_at_call 23; with_reducible refine (Next.zt _ _ HZ.out).mono ?_; rintro e w' ⟨rfl, hb⟩; have n9_ := Aside0.mk (ZW.below (by with_reducible exact HZ.out) hb); have n8_ := Aside0.mk (below_step (by repeat (first | (with_reducible first | exact HB.out | apply below_alloc | apply pw_below_drewN | apply below_drew1) | exact HB.out)) hb); clear HZ HB hb; have HZ := n9_; have HB := n8_; clear n9_ n8_) | (go_at_call 14; with_reducible refine (Set.zt _ k x _ HZ.out).mono ?_; rintro e w' ⟨rfl, hb⟩; have n9_ := Aside0.mk (ZW.below (by with_reducible exact HZ.out) hb); have n8_ := Aside0.mk (below_step (by repeat (first | (with_reducible first | exact HB.out | apply below_alloc | apply pw_below_drewN | apply below_drew1) | exact HB.out)) hb); clear HZ HB hb; have HZ := n9_; have HB := n8_; clear n9_ n8_) | (go_at_call 16; with_reducible refine (Stop.zt _ k _ HZ.out).mono ?_; rintro e w' ⟨rfl, hb⟩; have n9_ := Aside0.mk (ZW.below (by with_reducible exact HZ.out) hb); have n8_ := Aside0.mk (below_step (by repeat (first | (with_reducible first | exact HB.out | apply below_alloc | apply pw_below_drewN | apply below_drew1) | exact HB.out)) hb); clear HZ HB hb; have HZ := n9_; have HB := n8_; clear n9_ n8_) | (go_at_call 19; with_reducible refine (Turn.zt _ x _ HZ.out).mono ?_; rintro e w' ⟨rfl, hb⟩; have n9_ := Aside0.mk (ZW.below (by with_reducible exact HZ.out) hb); have n8_ := Aside0.mk (below_step (by repeat (first | (with_reducible first | exact HB.out | apply below_alloc | apply pw_below_drewN | apply below_drew1) | exact HB.out)) hb); clear HZ HB hb; have HZ := n9_; have HB := n8_; clear n9_ n8_) | (go_at_call 25; with_reducible refine (Len.zt _ _ HZ.out).mono ?_; rintro e w' ⟨rfl, hb⟩; have n9_ := Aside0.mk (ZW.below (by with_reducible exact HZ.out) hb); have n8_ := Aside0.mk (below_step (by repeat (first | (with_reducible first | exact HB.out | apply below_alloc | apply pw_below_drewN | apply below_drew1) | exact HB.out)) hb); clear HZ HB hb; have HZ := n9_; have HB := n8_; clear n9_ n8_) | (go_at_call 11; with_reducible refine (lives.calls _).mono ?_; rintro e w' ⟨rfl, hb⟩; have n8_ := Aside0.mk (below_step (by repeat (first | (with_reducible first | exact HB.out | apply below_alloc | apply pw_below_drewN | apply below_drew1) | exact HB.out)) hb); clear HB hb; have HB := n8_; clear n8_))
    go_ret
    exact ⟨rfl, HB.out⟩

end Go.Proofs.Ytgfekeicgcnjfaa.GA
