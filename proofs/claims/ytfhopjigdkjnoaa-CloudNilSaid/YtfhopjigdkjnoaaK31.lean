/- CloudNil, walked. No condition. -/
import Derived.Test.YtfhopjigdkjnoaaK30
import Derived.Laws.CopyOwn
import Derived.Laws.CopyRow
import Derived.ChangeKeysEq
import Derived.Deep.RegionHeld3
import Derived.Deep.MidRow
import Derived.Shelf.Abstract
import Derived.Maps.OwnSet
import Derived.Maps.AppendAt
import Derived.WalkSpells
namespace Go.Proofs.Ytfhopjigdkjnoaa.GA
open Go.RowKit Go.Shelf Go.Proofs.YtfhopjigdkjnoaaW.PrintWords Go.Proofs.YtfhopjigdkjnoaaW.PrintLast Go.Proofs.YtfhopjigdkjnoaaW.PrintMore
set_option linter.unusedVariables false
set_option linter.unusedSimpArgs false

set_option maxHeartbeats 8000000 in
set_option maxRecDepth 100000 in
theorem CloudNil.calls (r : S27) (ak an aa ab at_ : Int) (zero : Bool) (w : World) : Calls Try.prog 5 #[.agg #[.int .u8 r.f0, .int .u64 r.f1, .int .i64 r.f2, .bool r.f3, .int .u64 r.f4], .agg #[.int .u8 ak, .int .i64 an, .int .i64 aa, .int .i64 ab, .int .u64 at_], .bool zero] w fun e w' => e = .returned (.bool true) ∧ Below w.heap.size w w' := by
  cases zero with
  | false =>
    have HB := Aside0.mk (Below.refl w.heap.size w)
    go_enter Try.func5, Try.ntmps5
    go_upto_region 1 with (first
      | ((with_reducible refine gate_dst (N := 3) rfl ?_); refine box_event ?hg (N := 3) ?hd (cs := #[.int .u8 r.f0, .int .u64 r.f1, .int .i64 r.f2, .bool r.f3, .int .u64 r.f4]) (t := 27) ?hr ?_; (case hd => rfl); (case hg => rfl); (case hr => first | (go_simp; done) | (go_simp; rfl)); intro gr hg w1_r hbox hb; have GGr := Aside0.mk (show w.heap.size ≤ gr from by rw [hg]; exact below_size (by repeat (first | (with_reducible first | exact HB.out | apply below_alloc | apply pw_below_drewN | apply below_drew1) | exact HB.out))); have BKr := Aside0.mk hbox; clear hbox hg; have n0_ := Aside0.mk (below_step (by repeat (first | (with_reducible first | exact HB.out | apply below_alloc | apply pw_below_drewN | apply below_drew1) | exact HB.out)) hb); clear HB; have HB := n0_; clear n0_ hb)
      | ((with_reducible refine gate_dst (N := 4) rfl ?_); refine box_event ?hg (N := 4) ?hd (cs := #[.int .u8 ak, .int .i64 an, .int .i64 aa, .int .i64 ab, .int .u64 at_]) (t := 31) ?hr ?_; (case hd => rfl); (case hg => rfl); (case hr => first | (go_simp; done) | (go_simp; rfl)); intro ga hg w1_a hbox hb; have GGa := Aside0.mk (show w.heap.size ≤ ga from by rw [hg]; exact below_size (by repeat (first | (with_reducible first | exact HB.out | apply below_alloc | apply pw_below_drewN | apply below_drew1) | exact HB.out))); have BKa := Aside0.mk hbox; clear hbox hg; have n0_ := Aside0.mk (below_step (by repeat (first | (with_reducible first | exact HB.out | apply below_alloc | apply pw_below_drewN | apply below_drew1) | exact HB.out)) hb); (first | have n1_ := Aside0.mk (blk_below BKr.out hb) | have n1_ := Aside0.mk (blk_below (blk_drewN BKr.out _) hb) | have n1_ := Aside0.mk (blk_below (blk_drew BKr.out) hb) | have n1_ := Aside0.mk (blk_below (blk_alloc BKr.out _) hb) | have n1_ := Aside0.mk (blk_below (by first | exact BKr.out | ((with_reducible repeat (first | refine blk_drewN ?_ _ | refine blk_drew ?_ | refine blk_alloc ?_ _)); exact BKr.out)) hb)); clear HB BKr; have HB := n0_; have BKr := n1_; clear n0_ n1_ hb))
    have HZ : Aside0 (ZC w1_a (.pointer none)) := ⟨.inl rfl⟩
    have y0 : w1_a.cell? ⟨gr, 0, none⟩ = some (.int .u8 r.f0) := (blk_cell BKr.out 0).trans rfl
    have y1 : w1_a.cell? ⟨gr, 1, none⟩ = some (.int .u64 r.f1) := (blk_cell BKr.out 1).trans rfl
    have y2 : w1_a.cell? ⟨gr, 2, none⟩ = some (.int .i64 r.f2) := (blk_cell BKr.out 2).trans rfl
    have y3 : w1_a.cell? ⟨gr, 3, none⟩ = some (.bool r.f3) := (blk_cell BKr.out 3).trans rfl
    have y4 : w1_a.cell? ⟨gr, 4, none⟩ = some (.int .u64 r.f4) := (blk_cell BKr.out 4).trans rfl
    go_wp2_with (first
      | (go_at_call 7; with_reducible refine (AskZ.calls (.pointer none) r _ HZ.out).mono ?_; rintro e wn ⟨rfl, hb⟩; have hb9 := hb; have n0_ := Aside0.mk (below_step (by repeat (first | (with_reducible first | exact HB.out | apply below_alloc | apply pw_below_drewN | apply below_drew1) | exact HB.out)) hb); have n1_ := Aside0.mk (HZ.out.below hb); clear HB HZ hb; have HB := n0_; have HZ := n1_; clear n0_ n1_; have kA := Aside0.mk (blk_below BKa.out hb9); clear BKa; have BKa := kA; clear kA hb9; have z0 : wn.cell? ⟨ga, 0, none⟩ = some (.int .u8 ak) := (blk_cell BKa.out 0).trans rfl; have z1 : wn.cell? ⟨ga, 1, none⟩ = some (.int .i64 an) := (blk_cell BKa.out 1).trans rfl; have z2 : wn.cell? ⟨ga, 2, none⟩ = some (.int .i64 aa) := (blk_cell BKa.out 2).trans rfl; have z3 : wn.cell? ⟨ga, 3, none⟩ = some (.int .i64 ab) := (blk_cell BKa.out 3).trans rfl; have z4 : wn.cell? ⟨ga, 4, none⟩ = some (.int .u64 at_) := (blk_cell BKa.out 4).trans rfl)
      | (go_at_call 8; with_reducible refine (ActZ.calls (.pointer none) ak an aa ab at_ _ HZ.out).mono ?_; rintro e wn ⟨rfl, hb⟩; have n0_ := Aside0.mk (below_step (by repeat (first | (with_reducible first | exact HB.out | apply below_alloc | apply pw_below_drewN | apply below_drew1) | exact HB.out)) hb); have n1_ := Aside0.mk (HZ.out.below hb); clear HB HZ hb; have HB := n0_; have HZ := n1_; clear n0_ n1_)
      | (go_at_call 9; with_reducible refine (WaitsZ.calls (.pointer none) _ HZ.out).mono ?_; rintro e wn ⟨rfl, hb⟩; have n0_ := Aside0.mk (below_step (by repeat (first | (with_reducible first | exact HB.out | apply below_alloc | apply pw_below_drewN | apply below_drew1) | exact HB.out)) hb); have n1_ := Aside0.mk (HZ.out.below hb); clear HB HZ hb; have HB := n0_; have HZ := n1_; clear n0_ n1_)
      | (go_at_call 12; with_reducible refine (GrantsZ.calls (.pointer none) _ HZ.out).mono ?_; rintro e wn ⟨rfl, hb⟩; have n0_ := Aside0.mk (below_step (by repeat (first | (with_reducible first | exact HB.out | apply below_alloc | apply pw_below_drewN | apply below_drew1) | exact HB.out)) hb); have n1_ := Aside0.mk (HZ.out.below hb); clear HB HZ hb; have HB := n0_; have HZ := n1_; clear n0_ n1_)
      | (go_at_call 13; with_reducible refine (TellZ.calls (.pointer none) _ HZ.out).mono ?_; rintro e wn ⟨rfl, hb⟩; have n0_ := Aside0.mk (below_step (by repeat (first | (with_reducible first | exact HB.out | apply below_alloc | apply pw_below_drewN | apply below_drew1) | exact HB.out)) hb); have n1_ := Aside0.mk (HZ.out.below hb); clear HB HZ hb; have HB := n0_; have HZ := n1_; clear n0_ n1_)
      | (go_at_call 14; with_reducible refine (CopyZ.calls (.pointer none) _ HZ.out).mono ?_; rintro e wn ⟨rfl, hb⟩; have n0_ := Aside0.mk (below_step (by repeat (first | (with_reducible first | exact HB.out | apply below_alloc | apply pw_below_drewN | apply below_drew1) | exact HB.out)) hb); have n1_ := Aside0.mk (HZ.out.below hb); clear HB HZ hb; have HB := n0_; have HZ := n1_; clear n0_ n1_)
      | (go_at_call 10; with_reducible refine (lives.calls _).mono ?_; rintro e wn ⟨rfl, hb⟩; have n0_ := Aside0.mk (below_step (by repeat (first | (with_reducible first | exact HB.out | apply below_alloc | apply pw_below_drewN | apply below_drew1) | exact HB.out)) hb); have n1_ := Aside0.mk (HZ.out.below hb); clear HB HZ hb; have HB := n0_; have HZ := n1_; clear n0_ n1_))
    go_ret
    exact ⟨rfl, HB.out⟩
  | true =>
    have HB := Aside0.mk (Below.refl w.heap.size w)
    go_enter Try.func5, Try.ntmps5
    go_upto_region 1 with (first
      | ((with_reducible refine gate_dst (N := 3) rfl ?_); refine box_event ?hg (N := 3) ?hd (cs := #[.int .u8 r.f0, .int .u64 r.f1, .int .i64 r.f2, .bool r.f3, .int .u64 r.f4]) (t := 27) ?hr ?_; (case hd => rfl); (case hg => rfl); (case hr => first | (go_simp; done) | (go_simp; rfl)); intro gr hg w1_r hbox hb; have GGr := Aside0.mk (show w.heap.size ≤ gr from by rw [hg]; exact below_size (by repeat (first | (with_reducible first | exact HB.out | apply below_alloc | apply pw_below_drewN | apply below_drew1) | exact HB.out))); have BKr := Aside0.mk hbox; clear hbox hg; have n0_ := Aside0.mk (below_step (by repeat (first | (with_reducible first | exact HB.out | apply below_alloc | apply pw_below_drewN | apply below_drew1) | exact HB.out)) hb); clear HB; have HB := n0_; clear n0_ hb)
      | ((with_reducible refine gate_dst (N := 4) rfl ?_); refine box_event ?hg (N := 4) ?hd (cs := #[.int .u8 ak, .int .i64 an, .int .i64 aa, .int .i64 ab, .int .u64 at_]) (t := 31) ?hr ?_; (case hd => rfl); (case hg => rfl); (case hr => first | (go_simp; done) | (go_simp; rfl)); intro ga hg w1_a hbox hb; have GGa := Aside0.mk (show w.heap.size ≤ ga from by rw [hg]; exact below_size (by repeat (first | (with_reducible first | exact HB.out | apply below_alloc | apply pw_below_drewN | apply below_drew1) | exact HB.out))); have BKa := Aside0.mk hbox; clear hbox hg; have n0_ := Aside0.mk (below_step (by repeat (first | (with_reducible first | exact HB.out | apply below_alloc | apply pw_below_drewN | apply below_drew1) | exact HB.out)) hb); (first | have n1_ := Aside0.mk (blk_below BKr.out hb) | have n1_ := Aside0.mk (blk_below (blk_drewN BKr.out _) hb) | have n1_ := Aside0.mk (blk_below (blk_drew BKr.out) hb) | have n1_ := Aside0.mk (blk_below (blk_alloc BKr.out _) hb) | have n1_ := Aside0.mk (blk_below (by first | exact BKr.out | ((with_reducible repeat (first | refine blk_drewN ?_ _ | refine blk_drew ?_ | refine blk_alloc ?_ _)); exact BKr.out)) hb)); clear HB BKr; have HB := n0_; have BKr := n1_; clear n0_ n1_ hb))
    go_upto_region 4 with fail
    have kN := blk_new w1_a (.cells #[.slice none 0 0, .slice none 0 0, .map none] 56)
    have hb := below_alloc (Below.refl w1_a.heap.size w1_a) (.cells #[.slice none 0 0, .slice none 0 0, .map none] 56)
    obtain ⟨gz, hgz⟩ : ∃ g, g = w1_a.heap.size := ⟨_, rfl⟩
    rw [← hgz]
    rw [← hgz] at kN
    generalize World.alloc w1_a _ = w2 at kN hb ⊢
    have HZ : Aside0 (ZC w2 (.pointer (some ⟨gz, 0, none⟩))) := ⟨.inr ⟨_, _, _, rfl, kN⟩⟩
    have n0_ := Aside0.mk (below_step HB.out hb)
    have n1_ := Aside0.mk (blk_below BKr.out hb)
    have n2_ := Aside0.mk (blk_below BKa.out hb)
    clear HB BKr BKa hb kN hgz
    have HB := n0_
    have BKr := n1_
    have BKa := n2_
    clear n0_ n1_ n2_
    have y0 : w2.cell? ⟨gr, 0, none⟩ = some (.int .u8 r.f0) := (blk_cell BKr.out 0).trans rfl
    have y1 : w2.cell? ⟨gr, 1, none⟩ = some (.int .u64 r.f1) := (blk_cell BKr.out 1).trans rfl
    have y2 : w2.cell? ⟨gr, 2, none⟩ = some (.int .i64 r.f2) := (blk_cell BKr.out 2).trans rfl
    have y3 : w2.cell? ⟨gr, 3, none⟩ = some (.bool r.f3) := (blk_cell BKr.out 3).trans rfl
    have y4 : w2.cell? ⟨gr, 4, none⟩ = some (.int .u64 r.f4) := (blk_cell BKr.out 4).trans rfl
    go_wp2_with (first
      | (go_at_call 7; with_reducible refine (AskZ.calls (.pointer (some ⟨gz, 0, none⟩)) r _ HZ.out).mono ?_; rintro e wn ⟨rfl, hb⟩; have hb9 := hb; have n0_ := Aside0.mk (below_step (by repeat (first | (with_reducible first | exact HB.out | apply below_alloc | apply pw_below_drewN | apply below_drew1) | exact HB.out)) hb); have n1_ := Aside0.mk (HZ.out.below hb); clear HB HZ hb; have HB := n0_; have HZ := n1_; clear n0_ n1_; have kA := Aside0.mk (blk_below BKa.out hb9); clear BKa; have BKa := kA; clear kA hb9; have z0 : wn.cell? ⟨ga, 0, none⟩ = some (.int .u8 ak) := (blk_cell BKa.out 0).trans rfl; have z1 : wn.cell? ⟨ga, 1, none⟩ = some (.int .i64 an) := (blk_cell BKa.out 1).trans rfl; have z2 : wn.cell? ⟨ga, 2, none⟩ = some (.int .i64 aa) := (blk_cell BKa.out 2).trans rfl; have z3 : wn.cell? ⟨ga, 3, none⟩ = some (.int .i64 ab) := (blk_cell BKa.out 3).trans rfl; have z4 : wn.cell? ⟨ga, 4, none⟩ = some (.int .u64 at_) := (blk_cell BKa.out 4).trans rfl)
      | (go_at_call 8; with_reducible refine (ActZ.calls (.pointer (some ⟨gz, 0, none⟩)) ak an aa ab at_ _ HZ.out).mono ?_; rintro e wn ⟨rfl, hb⟩; have n0_ := Aside0.mk (below_step (by repeat (first | (with_reducible first | exact HB.out | apply below_alloc | apply pw_below_drewN | apply below_drew1) | exact HB.out)) hb); have n1_ := Aside0.mk (HZ.out.below hb); clear HB HZ hb; have HB := n0_; have HZ := n1_; clear n0_ n1_)
      | (go_at_call 9; with_reducible refine (WaitsZ.calls (.pointer (some ⟨gz, 0, none⟩)) _ HZ.out).mono ?_; rintro e wn ⟨rfl, hb⟩; have n0_ := Aside0.mk (below_step (by repeat (first | (with_reducible first | exact HB.out | apply below_alloc | apply pw_below_drewN | apply below_drew1) | exact HB.out)) hb); have n1_ := Aside0.mk (HZ.out.below hb); clear HB HZ hb; have HB := n0_; have HZ := n1_; clear n0_ n1_)
      | (go_at_call 12; with_reducible refine (GrantsZ.calls (.pointer (some ⟨gz, 0, none⟩)) _ HZ.out).mono ?_; rintro e wn ⟨rfl, hb⟩; have n0_ := Aside0.mk (below_step (by repeat (first | (with_reducible first | exact HB.out | apply below_alloc | apply pw_below_drewN | apply below_drew1) | exact HB.out)) hb); have n1_ := Aside0.mk (HZ.out.below hb); clear HB HZ hb; have HB := n0_; have HZ := n1_; clear n0_ n1_)
      | (go_at_call 13; with_reducible refine (TellZ.calls (.pointer (some ⟨gz, 0, none⟩)) _ HZ.out).mono ?_; rintro e wn ⟨rfl, hb⟩; have n0_ := Aside0.mk (below_step (by repeat (first | (with_reducible first | exact HB.out | apply below_alloc | apply pw_below_drewN | apply below_drew1) | exact HB.out)) hb); have n1_ := Aside0.mk (HZ.out.below hb); clear HB HZ hb; have HB := n0_; have HZ := n1_; clear n0_ n1_)
      | (go_at_call 14; with_reducible refine (CopyZ.calls (.pointer (some ⟨gz, 0, none⟩)) _ HZ.out).mono ?_; rintro e wn ⟨rfl, hb⟩; have n0_ := Aside0.mk (below_step (by repeat (first | (with_reducible first | exact HB.out | apply below_alloc | apply pw_below_drewN | apply below_drew1) | exact HB.out)) hb); have n1_ := Aside0.mk (HZ.out.below hb); clear HB HZ hb; have HB := n0_; have HZ := n1_; clear n0_ n1_)
      | (go_at_call 10; with_reducible refine (lives.calls _).mono ?_; rintro e wn ⟨rfl, hb⟩; have n0_ := Aside0.mk (below_step (by repeat (first | (with_reducible first | exact HB.out | apply below_alloc | apply pw_below_drewN | apply below_drew1) | exact HB.out)) hb); have n1_ := Aside0.mk (HZ.out.below hb); clear HB HZ hb; have HB := n0_; have HZ := n1_; clear n0_ n1_))
    go_ret
    exact ⟨rfl, HB.out⟩

end Go.Proofs.Ytfhopjigdkjnoaa.GA
