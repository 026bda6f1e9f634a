/- What the law lives by: add, drop, find among two. No condition. -/
import Derived.Test.YthphdhhogdhmeaaS2
import Derived.Laws.CopyOwn
import Derived.ChangeKeysEq
import Derived.Deep.RegionHeld3
import Derived.Deep.MidRow
import Derived.Shelf.Abstract
namespace Go.Proofs.Ythphdhhogdhmeaa.GA
open Go.RowKit Go.Shelf Go.Proofs.YthphdhhogdhmeaaW.PrintWords Go.Proofs.YthphdhhogdhmeaaW.PrintLast Go.Proofs.YthphdhhogdhmeaaW.PrintMore
set_option linter.unusedVariables false
set_option linter.unusedSimpArgs false

theorem mayTwo : mayL twoL = true := by kernel_rfl
theorem mayY : inst_May.f 2 2 0 0 1 false 3 0 false 0 false false 0 = some true := by kernel_rfl
theorem zero29 : (Try.prog.info? 29).map (·.size) = some 12 := by kernel_rfl
theorem alloc29_make (W : World) : (Instr.alloc 29 true (.tuple #[])).run Try.prog W = .ok (.pointer (some ⟨W.heap.size, 0, none⟩)) (W.alloc (.cells #[.int .u64 0, .int .u64 0, .int .i64 0, .int .i64 0, .bool false, .int .u8 0, .int .u64 0, .bool false, .int .u64 0, .bool false, .bool false, .int .u32 0] 29)) := by kernel_rfl
theorem alloc29_run {o : Oper} {a : Act} (ho : o.op = .alloc 29) (W : World) : (execOp a.eval o).run Try.prog W = .ok (.value (.pointer (some ⟨W.heap.size, 0, none⟩))) (W.alloc (.cells #[.int .u64 0, .int .u64 0, .int .i64 0, .int .i64 0, .bool false, .int .u8 0, .int .u64 0, .bool false, .int .u64 0, .bool false, .bool false, .int .u32 0] 29 (0, 0))) := by
  unfold execOp
  simp only [ho, Sem.run_bind, alloc29_make, Result.andThen_ok, Sem.run_pure]
theorem two1_all : (#[.int .u64 2, .int .u64 0, .int .i64 0, .int .i64 3, .bool true, .int .u8 1, .int .u64 0, .bool false, .int .u64 0, .bool false, .bool false, .int .u32 0] : Array Value).all (·.oneCell') = true := by simp [Value.oneCell']

set_option maxHeartbeats 8000000 in
set_option maxRecDepth 100000 in
theorem Add.two (g c : Nat) (w : World) (hl : Kd.C k29 w (some ⟨g, 0, none⟩) twoL.length twoL) (hc : twoL.length ≤ c) : Calls Try.prog 10 #[.slice (some ⟨g, 0, none⟩) twoL.length c, .agg #[.int .u64 2, .int .u64 0, .int .i64 0, .int .i64 1, .bool false, .int .u8 3, .int .u64 0, .bool false, .int .u64 0, .bool false, .bool false, .int .u32 0]] w fun e w' => e = .returned (.tuple #[.slice none 0 0, .int .i64 8]) ∧ Below w.heap.size w w' := by
  have HB := Aside0.mk (Below.refl w.heap.size w)
  have HL := Aside0.mk hl
  have HC := Aside0.mk hc
  clear hl hc
  go_enter Try.func10, Try.ntmps10
  go_wp2_with (first
    | ((with_reducible refine gate_dst (N := 3) rfl ?_); refine box_event ?hg (N := 3) ?hd (cs := #[.int .u64 2, .int .u64 0, .int .i64 0, .int .i64 1, .bool false, .int .u8 3, .int .u64 0, .bool false, .int .u64 0, .bool false, .bool false, .int .u32 0]) (t := 29) ?hr ?_; (case hd => rfl); (case hg => rfl); (case hr => first | (go_simp; done) | (go_simp; rfl)); intro gy hg w1_y hbox hb; have GGy := Aside0.mk (show w.heap.size ≤ gy from by rw [hg]; exact below_size (by repeat (first | (with_reducible first | exact HB.out | apply below_alloc | apply pw_below_drewN | apply below_drew1) | exact HB.out))); have BKy := Aside0.mk hbox; clear hbox hg; have n0_ := Aside0.mk (below_step (by repeat (first | (with_reducible first | exact HB.out | apply below_alloc | apply pw_below_drewN | apply below_drew1) | exact HB.out)) hb); clear HB; have HB := n0_; clear n0_ hb; have y0 : w1_y.cell? ⟨gy, 0, none⟩ = some (.int .u64 2) := (blk_cell BKy.out 0).trans rfl)
    | (go_at_call 4; with_reducible refine (May.calls (some ⟨g, 0, none⟩) c twoL _ (Kd.C_below HL.out (by repeat (first | (with_reducible first | exact HB.out | apply below_alloc | apply pw_below_drewN | apply below_drew1) | exact HB.out))) HC.out).mono ?_; rw [mayTwo]; rintro e w' ⟨rfl, hb⟩; have n0_ := Aside0.mk (below_step (by repeat (first | (with_reducible first | exact HB.out | apply below_alloc | apply pw_below_drewN | apply below_drew1) | exact HB.out)) hb); (first | have n1_ := Aside0.mk (blk_below BKy.out hb) | have n1_ := Aside0.mk (blk_below (blk_drewN BKy.out _) hb) | have n1_ := Aside0.mk (blk_below (blk_drew BKy.out) hb) | have n1_ := Aside0.mk (blk_below (blk_alloc BKy.out _) hb) | have n1_ := Aside0.mk (blk_below (by first | exact BKy.out | ((with_reducible repeat (first | refine blk_drewN ?_ _ | refine blk_drew ?_ | refine blk_alloc ?_ _)); exact BKy.out)) hb)); clear HB BKy; have HB := n0_; have BKy := n1_; clear n0_ n1_ hb; have y0 : w'.cell? ⟨gy, 0, none⟩ = some (.int .u64 2) := (blk_cell BKy.out 0).trans rfl)
    | ((with_reducible refine gate_dst (N := 12) rfl ?_); (refine gate_guard (by rfl) ?_; dsimp only); refine wpList_load_row rfl 29 (.tmp 3) rfl gy rfl 29 #[.int .u64 2, .int .u64 0, .int .i64 0, .int .i64 1, .bool false, .int .u8 3, .int .u64 0, .bool false, .int .u64 0, .bool false, .bool false, .int .u32 0] (0, 0) _ (by first | exact BKy.out | ((with_reducible repeat (first | refine blk_drewN ?_ _ | refine blk_drew ?_ | refine blk_alloc ?_ _)); exact BKy.out)) Try.underlying29 rfl zero29 ?_)
    | (go_at_call 7; with_reducible refine (inst_May.calls 2 2 0 0 1 false 3 0 false 0 false false 0 true _ mayY).mono ?_; rintro e w' ⟨rfl, hb⟩; have n0_ := Aside0.mk (below_step (by repeat (first | (with_reducible first | exact HB.out | apply below_alloc | apply pw_below_drewN | apply below_drew1) | exact HB.out)) hb); (first | have n1_ := Aside0.mk (blk_below BKy.out hb) | have n1_ := Aside0.mk (blk_below (blk_drewN BKy.out _) hb) | have n1_ := Aside0.mk (blk_below (blk_drew BKy.out) hb) | have n1_ := Aside0.mk (blk_below (blk_alloc BKy.out _) hb) | have n1_ := Aside0.mk (blk_below (by first | exact BKy.out | ((with_reducible repeat (first | refine blk_drewN ?_ _ | refine blk_drew ?_ | refine blk_alloc ?_ _)); exact BKy.out)) hb)); clear HB BKy; have HB := n0_; have BKy := n1_; clear n0_ n1_ hb; have y0 : w'.cell? ⟨gy, 0, none⟩ = some (.int .u64 2) := (blk_cell BKy.out 0).trans rfl)
    | (go_at_call 17; with_reducible refine (find12.calls g c _ (Kd.C_below HL.out (by repeat (first | (with_reducible first | exact HB.out | apply below_alloc | apply pw_below_drewN | apply below_drew1) | exact HB.out))) HC.out).mono ?_; rintro e w' ⟨rfl, hb⟩; have n0_ := Aside0.mk (below_step (by repeat (first | (with_reducible first | exact HB.out | apply below_alloc | apply pw_below_drewN | apply below_drew1) | exact HB.out)) hb); clear HB; have HB := n0_; clear n0_ hb))
  go_ret2
  exact ⟨rfl, by repeat (first | (with_reducible first | exact HB.out | apply below_alloc | apply pw_below_drewN | apply below_drew1) | exact HB.out)⟩

set_option maxHeartbeats 8000000 in
set_option maxRecDepth 100000 in
theorem Drop.two (g c : Nat) (w : World) (hl : Kd.C k29 w (some ⟨g, 0, none⟩) twoL.length twoL) (hc : twoL.length ≤ c) : Calls Try.prog 11 #[.slice (some ⟨g, 0, none⟩) twoL.length c, .int .u64 7] w fun e w' => e = .returned (.tuple #[.slice none 0 0, .int .i64 7]) ∧ Below w.heap.size w w' := by
  have HB := Aside0.mk (Below.refl w.heap.size w)
  have HL := Aside0.mk hl
  have HC := Aside0.mk hc
  clear hl hc
  go_enter Try.func11, Try.ntmps11
  go_wp2_with (first
    | (go_at_call 4; with_reducible refine (May.calls (some ⟨g, 0, none⟩) c twoL _ (Kd.C_below HL.out (by repeat (first | (with_reducible first | exact HB.out | apply below_alloc | apply pw_below_drewN | apply below_drew1) | exact HB.out))) HC.out).mono ?_; rw [mayTwo]; rintro e w' ⟨rfl, hb⟩; have n0_ := Aside0.mk (below_step (by repeat (first | (with_reducible first | exact HB.out | apply below_alloc | apply pw_below_drewN | apply below_drew1) | exact HB.out)) hb); clear HB; have HB := n0_; clear n0_ hb)
    | (go_at_call 17; with_reducible refine (find17.calls g c _ (Kd.C_below HL.out (by repeat (first | (with_reducible first | exact HB.out | apply below_alloc | apply pw_below_drewN | apply below_drew1) | exact HB.out))) HC.out).mono ?_; rintro e w' ⟨rfl, hb⟩; have n0_ := Aside0.mk (below_step (by repeat (first | (with_reducible first | exact HB.out | apply below_alloc | apply pw_below_drewN | apply below_drew1) | exact HB.out)) hb); clear HB; have HB := n0_; clear n0_ hb))
  go_ret2
  exact ⟨rfl, by repeat (first | (with_reducible first | exact HB.out | apply below_alloc | apply pw_below_drewN | apply below_drew1) | exact HB.out)⟩

theorem two1_cells {g : Nat} {w : World} (h : Kd.C k29 w (some ⟨g, 0, none⟩) twoL.length twoL) : w.cell? ⟨g, 12, none⟩ = some (.int .u64 2) ∧ w.cell? ⟨g, 13, none⟩ = some (.int .u64 0) ∧ w.cell? ⟨g, 14, none⟩ = some (.int .i64 0) ∧ w.cell? ⟨g, 15, none⟩ = some (.int .i64 3) ∧ w.cell? ⟨g, 16, none⟩ = some (.bool true) ∧ w.cell? ⟨g, 17, none⟩ = some (.int .u8 1) ∧ w.cell? ⟨g, 18, none⟩ = some (.int .u64 0) ∧ w.cell? ⟨g, 19, none⟩ = some (.bool false) ∧ w.cell? ⟨g, 20, none⟩ = some (.int .u64 0) ∧ w.cell? ⟨g, 21, none⟩ = some (.bool false) ∧ w.cell? ⟨g, 22, none⟩ = some (.bool false) ∧ w.cell? ⟨g, 23, none⟩ = some (.int .u32 0) := by
  obtain ⟨ad, e, q0, q1, q2, q3, q4, q5, q6, q7, q8, q9, q10, q11⟩ := at_T29 h 1 (by decide) (by decide)
  cases e
  exact ⟨q0, q1, q2, q3, q4, q5, q6, q7, q8, q9, q10, q11⟩

set_option maxHeartbeats 8000000 in
set_option maxRecDepth 100000 in
theorem Find.two (g c : Nat) (w : World) (hl : Kd.C k29 w (some ⟨g, 0, none⟩) twoL.length twoL) (hc : twoL.length ≤ c) : Calls Try.prog 12 #[.slice (some ⟨g, 0, none⟩) twoL.length c, .int .u64 2] w fun e w' => e = .returned (.tuple #[.agg #[.int .u64 2, .int .u64 0, .int .i64 0, .int .i64 3, .bool true, .int .u8 1, .int .u64 0, .bool false, .int .u64 0, .bool false, .bool false, .int .u32 0], .bool true]) ∧ Below w.heap.size w w' := by
  have HB := Aside0.mk (Below.refl w.heap.size w)
  have HL := Aside0.mk hl
  have HC := Aside0.mk hc
  clear hl hc
  go_enter Try.func12, Try.ntmps12
  go_wp2_with (first
    | ((with_reducible refine gate_dst (N := 4) rfl ?_); refine box_event ?hg (N := 4) ?hd (cs := #[.int .u64 0, .int .u64 0, .int .i64 0, .int .i64 0, .bool false, .int .u8 0, .int .u64 0, .bool false, .int .u64 0, .bool false, .bool false, .int .u32 0]) (t := 29) ?hr ?_; (case hd => rfl); (case hg => rfl); (case hr => exact alloc29_run rfl _); intro gx hg w1x hbox hb; have Gx := Aside0.mk (show w.heap.size ≤ gx from by rw [hg]; exact below_size (by repeat (first | (with_reducible first | exact HB.out | apply below_alloc | apply pw_below_drewN | apply below_drew1) | exact HB.out))); have BKx := Aside0.mk hbox; clear hbox hg; have n0_ := Aside0.mk (below_step (by repeat (first | (with_reducible first | exact HB.out | apply below_alloc | apply pw_below_drewN | apply below_drew1) | exact HB.out)) hb); clear HB; have HB := n0_; clear n0_ hb)
    | (go_at_call 4; with_reducible refine (May.calls (some ⟨g, 0, none⟩) c twoL _ (Kd.C_below HL.out (by repeat (first | (with_reducible first | exact HB.out | apply below_alloc | apply pw_below_drewN | apply below_drew1) | exact HB.out))) HC.out).mono ?_; rw [mayTwo]; rintro e w' ⟨rfl, hb⟩; have n0_ := Aside0.mk (below_step (by repeat (first | (with_reducible first | exact HB.out | apply below_alloc | apply pw_below_drewN | apply below_drew1) | exact HB.out)) hb); (first | have n1_ := Aside0.mk (blk_below BKx.out hb) | have n1_ := Aside0.mk (blk_below (blk_drewN BKx.out _) hb) | have n1_ := Aside0.mk (blk_below (blk_drew BKx.out) hb) | have n1_ := Aside0.mk (blk_below (blk_alloc BKx.out _) hb) | have n1_ := Aside0.mk (blk_below (by first | exact BKx.out | ((with_reducible repeat (first | refine blk_drewN ?_ _ | refine blk_drew ?_ | refine blk_alloc ?_ _)); exact BKx.out)) hb)); clear HB BKx; have HB := n0_; have BKx := n1_; clear n0_ n1_ hb)
    | (go_at_call 17; with_reducible refine (find12.calls g c _ (Kd.C_below HL.out (by repeat (first | (with_reducible first | exact HB.out | apply below_alloc | apply pw_below_drewN | apply below_drew1) | exact HB.out))) HC.out).mono ?_; rintro e w' ⟨rfl, hb⟩; have n0_ := Aside0.mk (below_step (by repeat (first | (with_reducible first | exact HB.out | apply below_alloc | apply pw_below_drewN | apply below_drew1) | exact HB.out)) hb); (first | have n1_ := Aside0.mk (blk_below BKx.out hb) | have n1_ := Aside0.mk (blk_below (blk_drewN BKx.out _) hb) | have n1_ := Aside0.mk (blk_below (blk_drew BKx.out) hb) | have n1_ := Aside0.mk (blk_below (blk_alloc BKx.out _) hb) | have n1_ := Aside0.mk (blk_below (by first | exact BKx.out | ((with_reducible repeat (first | refine blk_drewN ?_ _ | refine blk_drew ?_ | refine blk_alloc ?_ _)); exact BKx.out)) hb)); clear HB BKx; have HB := n0_; have BKx := n1_; clear n0_ n1_ hb; obtain ⟨q0, q1, q2, q3, q4, q5, q6, q7, q8, q9, q10, q11⟩ := two1_cells (Kd.C_below HL.out HB.out))
    | (refine wpList_store_row rfl 29 (.tmp 4) (.tmp 24) rfl gx #[.int .u64 2, .int .u64 0, .int .i64 0, .int .i64 3, .bool true, .int .u8 1, .int .u64 0, .bool false, .int .u64 0, .bool false, .bool false, .int .u32 0] rfl (by rfl) 29 #[.int .u64 0, .int .u64 0, .int .i64 0, .int .i64 0, .bool false, .int .u8 0, .int .u64 0, .bool false, .int .u64 0, .bool false, .bool false, .int .u32 0] BKx.out zero29 rfl two1_all ?_; have n0 := Aside0.mk (below_setRow HB.out (show w.heap.size ≤ gx from Gx.out) #[.int .u64 2, .int .u64 0, .int .i64 0, .int .i64 3, .bool true, .int .u8 1, .int .u64 0, .bool false, .int .u64 0, .bool false, .bool false, .int .u32 0]); have n1 := Aside0.mk (setRow_heap _ _ _ #[.int .u64 2, .int .u64 0, .int .i64 0, .int .i64 3, .bool true, .int .u8 1, .int .u64 0, .bool false, .int .u64 0, .bool false, .bool false, .int .u32 0] _ _ BKx.out); generalize World.setRow _ _ _ = w9 at n0 n1 ⊢; clear HB BKx; have HB := n0; have BKx := n1; clear n0 n1))
  refine bodyPost_ret (results_ct rfl _ _ gx 29 #[.int .u64 2, .int .u64 0, .int .i64 0, .int .i64 3, .bool true, .int .u8 1, .int .u64 0, .bool false, .int .u64 0, .bool false, .bool false, .int .u32 0] (0, 0) _ rfl BKx.out Try.underlying29 rfl zero29) rfl ?_
  exact ⟨rfl, HB.out⟩

end Go.Proofs.Ythphdhhogdhmeaa.GA
