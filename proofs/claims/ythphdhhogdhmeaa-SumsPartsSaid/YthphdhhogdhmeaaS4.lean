/- What the law lives by. No condition. -/
import Derived.Test.YthphdhhogdhmeaaS3
import Derived.Test.YthphdhhogdhmeaaW7
import Derived.Laws.CopyOwn
import Derived.ChangeKeysEq
import Derived.Deep.RegionHeld3
import Derived.Deep.MidRow
import Derived.Shelf.Abstract
namespace Go.Proofs.Ythphdhhogdhmeaa.GA
open Go.RowKit Go.Shelf Go.Proofs.YthphdhhogdhmeaaW.PrintWords Go.Proofs.YthphdhhogdhmeaaW.PrintLast Go.Proofs.YthphdhhogdhmeaaW.PrintMore
set_option linter.unusedVariables false
set_option linter.unusedSimpArgs false

def oneL : List S33 := [(⟨(⟨1, 1, 0, false, 0⟩ : S31), 0, 1, false, 0⟩ : S33)]
theorem ofTwo : sumc (sumOf twoL oneL 0) = #[.int .i64 2, .int .i64 2, .int .i64 4, .int .i64 1, .int .i64 0, .int .i64 3] := by kernel_rfl
theorem oneLe : oneL.length ≤ 4096 := by decide
theorem twoPos : 0 < twoL.length := by decide
theorem size35 : (Try.prog.info? 35).map (·.size) = some 6 := by kernel_rfl
theorem ls_all : (#[.int .i64 2, .int .i64 2, .int .i64 4, .int .i64 1, .int .i64 0, .int .i64 3] : Array Value).all (·.oneCell') = true := by simp [Value.oneCell']
theorem twoF : cohortlaw17_two.f = some twoL := rfl
theorem oneF : cohortlaw17_one.f = some oneL := rfl

set_option maxHeartbeats 8000000 in
set_option maxRecDepth 100000 in
theorem lives.calls (w : World) : Calls Try.prog 5 #[] w fun e w' => e = .returned (.bool true) ∧ Below w.heap.size w w' := by
  have HB := Aside0.mk (Below.refl w.heap.size w)
  go_enter Try.func5, Try.ntmps5
  go_upto_region 2 with (first
    | (go_at_call 8; with_reducible refine (cohortlaw17_two.calls twoL _ twoF).mono ?_; rintro e w' ⟨v0, rfl, ho, hb⟩; obtain ⟨g, c, rfl, -⟩ := Kd.R_form ho twoPos; have HT := Aside0.mk (Kd.R_reads' ho).2.2; have HTC := Aside0.mk (Kd.R_reads' ho).2.1; clear ho; have n0_ := Aside0.mk (below_step (by repeat (first | (with_reducible first | exact HB.out | apply below_alloc | apply pw_below_drewN | apply below_drew1) | exact HB.out)) hb); clear HB; have HB := n0_; clear n0_ hb)
    | (go_at_call 9; with_reducible refine (cohortlaw17_one.calls oneL _ oneF).mono ?_; rintro e w' ⟨v1, rfl, ho, hb⟩; obtain ⟨A1, c1, eA⟩ := Kd.R_slice ho; subst eA; have HU := Aside0.mk (Kd.R_reads' ho).2.2; clear ho; have n9 := Aside0.mk (Kd.C_below HT.out hb); clear HT; have HT := n9; clear n9; have n0_ := Aside0.mk (below_step (by repeat (first | (with_reducible first | exact HB.out | apply below_alloc | apply pw_below_drewN | apply below_drew1) | exact HB.out)) hb); clear HB; have HB := n0_; clear n0_ hb)
    | (go_at_call 6; with_reducible refine (Of.calls (some ⟨g, 0, none⟩) c twoL A1 c1 oneL 0 _ HT.out HTC.out HU.out oneLe mayTwo).mono ?_; rw [ofTwo]; rintro e w' ⟨rfl, hb⟩; have n0_ := Aside0.mk (below_step (by repeat (first | (with_reducible first | exact HB.out | apply below_alloc | apply pw_below_drewN | apply below_drew1) | exact HB.out)) hb); clear HB; have HB := n0_; clear n0_ hb)
    | ((with_reducible refine gate_dst (N := 1) rfl ?_); refine box_event ?hg (N := 1) ?hd (cs := (sumc zsum)) (t := 35) ?hr ?_; (case hd => rfl); (case hg => rfl); (case hr => exact alloc59_run rfl _); intro gs hg w1s hbox hb; have Gs := Aside0.mk (show w.heap.size ≤ gs from by rw [hg]; exact below_size (by repeat (first | (with_reducible first | exact HB.out | apply below_alloc | apply pw_below_drewN | apply below_drew1) | exact HB.out))); have BKs := Aside0.mk hbox; clear hbox hg; have n0_ := Aside0.mk (below_step (by repeat (first | (with_reducible first | exact HB.out | apply below_alloc | apply pw_below_drewN | apply below_drew1) | exact HB.out)) hb); clear HB; have HB := n0_; clear n0_ hb)
    | (refine wpList_store_row rfl 35 (.tmp 1) (.tmp 10) rfl gs #[.int .i64 2, .int .i64 2, .int .i64 4, .int .i64 1, .int .i64 0, .int .i64 3] rfl (by rfl) 35 (sumc zsum) BKs.out size35 rfl ls_all ?_; have n0 := Aside0.mk (below_setRow HB.out (show w.heap.size ≤ gs from Gs.out) #[.int .i64 2, .int .i64 2, .int .i64 4, .int .i64 1, .int .i64 0, .int .i64 3]); have n1 := Aside0.mk (setRow_heap _ _ _ #[.int .i64 2, .int .i64 2, .int .i64 4, .int .i64 1, .int .i64 0, .int .i64 3] _ _ BKs.out); generalize World.setRow _ _ _ = w9 at n0 n1 ⊢; clear HB BKs; have HB := n0; have BKs := n1; clear n0 n1))
  go_wp2_with (first
    | (go_at_call 8; with_reducible refine (cohortlaw17_two.calls twoL _ twoF).mono ?_; rintro e w' ⟨v0, rfl, ho, hb⟩; obtain ⟨g, c, rfl, -⟩ := Kd.R_form ho twoPos; have HT := Aside0.mk (Kd.R_reads' ho).2.2; have HTC := Aside0.mk (Kd.R_reads' ho).2.1; clear ho; have n0_ := Aside0.mk (below_step (by repeat (first | (with_reducible first | exact HB.out | apply below_alloc | apply pw_below_drewN | apply below_drew1) | exact HB.out)) hb); (first | have n1_ := Aside0.mk (blk_below BKs.out hb) | have n1_ := Aside0.mk (blk_below (blk_drewN BKs.out _) hb) | have n1_ := Aside0.mk (blk_below (blk_drew BKs.out) hb) | have n1_ := Aside0.mk (blk_below (blk_alloc BKs.out _) hb) | have n1_ := Aside0.mk (blk_below (by first | exact BKs.out | ((with_reducible repeat (first | refine blk_drewN ?_ _ | refine blk_drew ?_ | refine blk_alloc ?_ _)); exact BKs.out)) hb)); clear HB BKs; have HB := n0_; have BKs := n1_; clear n0_ n1_ hb)
    | (go_at_call 10; with_reducible refine (Add.two g c _ HT.out HTC.out).mono ?_; rintro e w' ⟨rfl, hb⟩; have n0_ := Aside0.mk (below_step (by repeat (first | (with_reducible first | exact HB.out | apply below_alloc | apply pw_below_drewN | apply below_drew1) | exact HB.out)) hb); (first | have n1_ := Aside0.mk (blk_below BKs.out hb) | have n1_ := Aside0.mk (blk_below (blk_drewN BKs.out _) hb) | have n1_ := Aside0.mk (blk_below (blk_drew BKs.out) hb) | have n1_ := Aside0.mk (blk_below (blk_alloc BKs.out _) hb) | have n1_ := Aside0.mk (blk_below (by first | exact BKs.out | ((with_reducible repeat (first | refine blk_drewN ?_ _ | refine blk_drew ?_ | refine blk_alloc ?_ _)); exact BKs.out)) hb)); clear HB BKs; have HB := n0_; have BKs := n1_; clear n0_ n1_ hb)
    | (go_at_call 11; with_reducible refine (Drop.two g c _ HT.out HTC.out).mono ?_; rintro e w' ⟨rfl, hb⟩; have n0_ := Aside0.mk (below_step (by repeat (first | (with_reducible first | exact HB.out | apply below_alloc | apply pw_below_drewN | apply below_drew1) | exact HB.out)) hb); (first | have n1_ := Aside0.mk (blk_below BKs.out hb) | have n1_ := Aside0.mk (blk_below (blk_drewN BKs.out _) hb) | have n1_ := Aside0.mk (blk_below (blk_drew BKs.out) hb) | have n1_ := Aside0.mk (blk_below (blk_alloc BKs.out _) hb) | have n1_ := Aside0.mk (blk_below (by first | exact BKs.out | ((with_reducible repeat (first | refine blk_drewN ?_ _ | refine blk_drew ?_ | refine blk_alloc ?_ _)); exact BKs.out)) hb)); clear HB BKs; have HB := n0_; have BKs := n1_; clear n0_ n1_ hb)
    | (go_at_call 12; with_reducible refine (Find.two g c _ HT.out HTC.out).mono ?_; rintro e w' ⟨rfl, hb⟩; have n0_ := Aside0.mk (below_step (by repeat (first | (with_reducible first | exact HB.out | apply below_alloc | apply pw_below_drewN | apply below_drew1) | exact HB.out)) hb); (first | have n1_ := Aside0.mk (blk_below BKs.out hb) | have n1_ := Aside0.mk (blk_below (blk_drewN BKs.out _) hb) | have n1_ := Aside0.mk (blk_below (blk_drew BKs.out) hb) | have n1_ := Aside0.mk (blk_below (blk_alloc BKs.out _) hb) | have n1_ := Aside0.mk (blk_below (by first | exact BKs.out | ((with_reducible repeat (first | refine blk_drewN ?_ _ | refine blk_drew ?_ | refine blk_alloc ?_ _)); exact BKs.out)) hb)); clear HB BKs; have HB := n0_; have BKs := n1_; clear n0_ n1_ hb)
    | ((with_reducible refine gate_dst (N := 27) rfl ?_); refine wpList_load_row rfl 35 (.tmp 1) rfl gs rfl 35 #[.int .i64 2, .int .i64 2, .int .i64 4, .int .i64 1, .int .i64 0, .int .i64 3] (0, 0) _ (by first | exact BKs.out | ((with_reducible repeat (first | refine blk_drewN ?_ _ | refine blk_drew ?_ | refine blk_alloc ?_ _)); exact BKs.out)) Try.underlying35 rfl size35 ?_))
  go_ret
  exact ⟨rfl, by repeat (first | (with_reducible first | exact HB.out | apply below_alloc | apply pw_below_drewN | apply below_drew1) | exact HB.out)⟩

end Go.Proofs.Ythphdhhogdhmeaa.GA
