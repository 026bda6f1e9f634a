/- Blocks in memory: loads, stores and copies of 64 bytes. No condition. -/
import Derived.Test.YtlnfdhcpnbhkdaaD12
import Derived.Laws.CopyOwn
import Derived.ChangeKeysEq
import Derived.Deep.RegionHeld3
import Derived.Deep.MidRow
namespace Go.Proofs.Ytlnfdhcpnbhkdaa.GA
open Go.RowKit Go.Proofs.YtlnfdhcpnbhkdaaW.PrintWords Go.Proofs.YtlnfdhcpnbhkdaaW.PrintLast Go.Proofs.YtlnfdhcpnbhkdaaW.PrintMore
set_option linter.unusedVariables false
set_option linter.unusedSimpArgs false

theorem ZV.nil (w : World) : ZV w (.pointer none) := Or.inl rfl
theorem ZV.row {w : World} {gd : Nat} (hg : w.heap[gd]? = some (.cells (drow (.slice none 0 0) none 0 0 (.slice none 0 0) 0 0 false) 60 (0, 0))) : ZV w (.pointer (some ⟨gd, 0, none⟩)) := Or.inr ⟨gd, rfl, hg⟩

set_option maxHeartbeats 8000000 in
set_option maxRecDepth 100000 in
theorem diskNil.calls0 (w : World) (d n : Int) (b : List Int) (pk : Value) (hb : b.length = 64) :
    Calls Try.prog 7 #[.agg (actC d n b pk), .bool false] w fun e' w' => e' = .returned (.bool true) ∧ Below w.heap.size w w' := by
  have HB := Aside0.mk (Below.refl w.heap.size w)
  have LB := Aside0.mk hb
  clear hb
  go_enter Try.func7, Try.ntmps7
  go_wp2_with (first
    | ((with_reducible refine gate_dst (N := 2) rfl ?_); refine box_event ?hg (N := 2) ?hd (cs := actC d n b pk) (t := 53) ?hr ?_; (case hd => rfl); (case hg => rfl); (case hr => exact boxagg_run rfl rfl _); intro gq hg w1q hbox hb; have Gq := Aside0.mk (show w.heap.size ≤ gq from by rw [hg]; exact below_size (by repeat (first | (with_reducible first | exact HB.out | apply below_alloc | apply pw_below_drewN | apply below_drew1) | exact HB.out))); have BKq := Aside0.mk hbox; clear hbox hg; have n0_ := Aside0.mk (below_step (by repeat (first | (with_reducible first | exact HB.out | apply below_alloc | apply pw_below_drewN | apply below_drew1) | exact HB.out)) hb); clear HB; have HB := n0_; clear n0_ hb))
  go_loopw [6] (fun v6 w' => ∃ (i : Nat) (D : Int), i ≤ 6 ∧ v6 = .int .i64 i ∧ Aside0 (w'.heap[gq]? = some (.cells (actC D n b pk) 53 (0, 0))) ∧ Aside0 (Below w.heap.size w w')) (fun v6 _ => 6 - (intOf v6).toNat)
  case atStart => exact ⟨0, d, by decide, rfl, BKq, HB⟩
  case round =>
    clear BKq HB
    obtain ⟨i, D, hi, rfl, BKq, HB⟩ := hrel
    by_cases hlt : i < 6
    · have i1 : (0 : Int) ≤ (i : Int) := Int.natCast_nonneg i
      have i2 : decide ((i : Int) ≤ 5) = true := decide_eq_true (by omega)
      have i3 : wrap64 ((i : Int) + 1) = (i : Int) + 1 := by unfold wrap64; omega
      have HI := Aside0.mk hlt
      have q0 : wr.cell? ⟨gq, 0, none⟩ = some (.int .i64 D) := (blk_cell BKq.out 0).trans (actC_0 _ _ _ _)
      have z0 := blk_frozen BKq.out 0
      go_upto_region 8 with (fail)
      have nq := Aside0.mk (blk_put BKq.out 0 (.int .i64 (i : Int)) (actC_set _ _ _ _ _))
      have nb := Aside0.mk (show Below w.heap.size w (wr.setCell ⟨gq, 0, none⟩ (.int .i64 (i : Int))) from HB.out.setCell (show w.heap.size ≤ gq from Gq.out) _)
      generalize wr.setCell ⟨gq, 0, none⟩ (.int .i64 (i : Int)) = w8 at nq nb ⊢
      clear BKq HB q0 z0 
      have BKq := nq
      have HB := nb
      skip
      clear nq nb 
      go_wp2_with (first
        | ((with_reducible refine gate_dst (N := 20) rfl ?_); refine wpList_load_row rfl 53 (.tmp 2) rfl gq rfl 53 (actC (i : Int) n b pk) (0, 0) _ (by (with_reducible repeat (first | refine blk_drewN ?_ _ | refine blk_drew ?_ | refine blk_alloc ?_ _)); exact BKq.out) Try.underlying53 rfl (actC_info _ _ _ _ LB.out) ?_)
        | (go_at_call 25; with_reducible refine (answer.zero _ _ (ZV.nil _) i HI.out n b pk LB.out).mono ?_; rintro e' w' ⟨rfl, hb⟩; have n0_ := Aside0.mk (below_step (by repeat (first | (with_reducible first | exact HB.out | apply below_alloc | apply pw_below_drewN | apply below_drew1) | exact HB.out)) hb); (first | have n1_ := Aside0.mk (blk_below BKq.out hb) | have n1_ := Aside0.mk (blk_below (blk_drewN BKq.out _) hb) | have n1_ := Aside0.mk (blk_below (blk_drew BKq.out) hb) | have n1_ := Aside0.mk (blk_below (blk_alloc BKq.out _) hb) | have n1_ := Aside0.mk (blk_below (by (with_reducible repeat (first | refine blk_drewN ?_ _ | refine blk_drew ?_ | refine blk_alloc ?_ _)); exact BKq.out) hb)); clear HB BKq; have HB := n0_; have BKq := n1_; clear n0_ n1_ hb)
        | ((with_reducible refine gate_dst (N := 7) rfl ?_); refine box_event ?hg (N := 7) ?hd (cs := bcells zero64) (t := 29) ?hr ?_; (case hd => rfl); (case hg => rfl); (case hr => exact alloc29_run rfl _); intro gx hg w1x hbox hb; have Gx := Aside0.mk (show w.heap.size ≤ gx from by rw [hg]; exact below_size (by repeat (first | (with_reducible first | exact HB.out | apply below_alloc | apply pw_below_drewN | apply below_drew1) | exact HB.out))); have NEqx := Aside0.mk (show gq ≠ gx from by rw [hg]; exact Nat.ne_of_lt (blk_lt (by (with_reducible repeat (first | refine blk_drewN ?_ _ | refine blk_drew ?_ | refine blk_alloc ?_ _)); exact BKq.out))); have BKx := Aside0.mk hbox; clear hbox hg; have n0_ := Aside0.mk (below_step (by repeat (first | (with_reducible first | exact HB.out | apply below_alloc | apply pw_below_drewN | apply below_drew1) | exact HB.out)) hb); (first | have n1_ := Aside0.mk (blk_below BKq.out hb) | have n1_ := Aside0.mk (blk_below (blk_drewN BKq.out _) hb) | have n1_ := Aside0.mk (blk_below (blk_drew BKq.out) hb) | have n1_ := Aside0.mk (blk_below (blk_alloc BKq.out _) hb) | have n1_ := Aside0.mk (blk_below (by (with_reducible repeat (first | refine blk_drewN ?_ _ | refine blk_drew ?_ | refine blk_alloc ?_ _)); exact BKq.out) hb)); clear HB BKq; have HB := n0_; have BKq := n1_; clear n0_ n1_ hb)
        | (refine wpList_store_row rfl 29 (.tmp 7) (.tmp 22) rfl gx (bcells zero64) rfl (by rfl) 29 (bcells zero64) (by (with_reducible repeat (first | refine blk_drewN ?_ _ | refine blk_drew ?_ | refine blk_alloc ?_ _)); exact BKx.out) (seal_size _ rfl) rfl (bcells_all _) ?_; have n0 := Aside0.mk (below_setRow (show Below w.heap.size w _ from by repeat (first | (with_reducible first | exact HB.out | apply below_alloc | apply pw_below_drewN | apply below_drew1) | exact HB.out)) (show w.heap.size ≤ gx from Gx.out) (bcells zero64)); have n1 := Aside0.mk (setRow_heap _ _ _ (bcells zero64) _ _ (by (with_reducible repeat (first | refine blk_drewN ?_ _ | refine blk_drew ?_ | refine blk_alloc ?_ _)); exact BKx.out)); have kq := Aside0.mk ((setRow_other _ gx gq (bcells zero64) NEqx.out).trans (by (with_reducible repeat (first | refine blk_drewN ?_ _ | refine blk_drew ?_ | refine blk_alloc ?_ _)); exact BKq.out)); generalize World.setRow _ _ _ = w3 at n0 n1 kq; clear HB BKx BKq; have HB := n0; have BKx := n1; have BKq := kq; clear kq; clear n0 n1))
      exact ⟨⟨i + 1, (i : Int), hlt, by first | rfl | (rw [Int.natCast_add]; rfl), BKq, HB⟩, by show 6 - (i + 1) < 6 - i; omega⟩
    · have hin : i = 6 := by omega
      subst hin
      have d6 : decide (((6 : Nat) : Int) ≤ 5) = false := rfl
      go_wp2_with (first
        | (go_at_call 26; with_reducible refine (Blocks.zero _ _ (ZV.nil _)).mono ?_; rintro e' w' ⟨rfl, hw⟩; subst w')
        | (go_at_call 13; with_reducible refine (Steps.zero _ _ (ZV.nil _)).mono ?_; rintro e' w' ⟨rfl, hw⟩; subst w')
        | (go_at_call 16; with_reducible refine (Loose.zero _ _ (ZV.nil _)).mono ?_; rintro e' w' ⟨rfl, hw⟩; subst w')
        | (go_at_call 12; with_reducible refine (Dark.zero _ _ (ZV.nil _)).mono ?_; rintro e' w' ⟨rfl, hw⟩; subst w')
        | (go_at_call 20; with_reducible refine (Copy.zero _ _ (ZV.nil _)).mono ?_; rintro e' w' ⟨rfl, hw⟩; subst w')
        | (go_at_call 14; with_reducible refine (law_lives.calls _).mono ?_; rintro e' w' ⟨rfl, hb⟩; have n0_ := Aside0.mk (below_step (by repeat (first | (with_reducible first | exact HB.out | apply below_alloc | apply pw_below_drewN | apply below_drew1) | exact HB.out)) hb); clear HB; have HB := n0_; clear n0_ hb))
      go_ret
      exact ⟨rfl, by repeat (first | (with_reducible first | exact HB.out | apply below_alloc | apply pw_below_drewN | apply below_drew1) | exact HB.out)⟩

set_option maxHeartbeats 8000000 in
set_option maxRecDepth 100000 in
theorem diskNil.calls1 (w : World) (d n : Int) (b : List Int) (pk : Value) (hb : b.length = 64) :
    Calls Try.prog 7 #[.agg (actC d n b pk), .bool true] w fun e' w' => e' = .returned (.bool true) ∧ Below w.heap.size w w' := by
  have HB := Aside0.mk (Below.refl w.heap.size w)
  have LB := Aside0.mk hb
  clear hb
  go_enter Try.func7, Try.ntmps7
  go_wp2_with (first
    | ((with_reducible refine gate_dst (N := 2) rfl ?_); refine box_event ?hg (N := 2) ?hd (cs := actC d n b pk) (t := 53) ?hr ?_; (case hd => rfl); (case hg => rfl); (case hr => exact boxagg_run rfl rfl _); intro gq hg w1q hbox hb; have Gq := Aside0.mk (show w.heap.size ≤ gq from by rw [hg]; exact below_size (by repeat (first | (with_reducible first | exact HB.out | apply below_alloc | apply pw_below_drewN | apply below_drew1) | exact HB.out))); have BKq := Aside0.mk hbox; clear hbox hg; have n0_ := Aside0.mk (below_step (by repeat (first | (with_reducible first | exact HB.out | apply below_alloc | apply pw_below_drewN | apply below_drew1) | exact HB.out)) hb); clear HB; have HB := n0_; clear n0_ hb)
    | ((with_reducible refine gate_dst (N := 11) rfl ?_); refine box_event ?hg (N := 11) ?hd (cs := drow (.slice none 0 0) none 0 0 (.slice none 0 0) 0 0 false) (t := 60) ?hr ?_; (case hd => rfl); (case hg => rfl); (case hr => exact boxagg_run rfl rfl _); intro gd hg w1d hbox hb; have Gd := Aside0.mk (show w.heap.size ≤ gd from by rw [hg]; exact below_size (by repeat (first | (with_reducible first | exact HB.out | apply below_alloc | apply pw_below_drewN | apply below_drew1) | exact HB.out))); have NEqd := Aside0.mk (show gq ≠ gd from by rw [hg]; exact Nat.ne_of_lt (blk_lt (by (with_reducible repeat (first | refine blk_drewN ?_ _ | refine blk_drew ?_ | refine blk_alloc ?_ _)); exact BKq.out))); have BKd := Aside0.mk hbox; clear hbox hg; have n0_ := Aside0.mk (below_step (by repeat (first | (with_reducible first | exact HB.out | apply below_alloc | apply pw_below_drewN | apply below_drew1) | exact HB.out)) hb); (first | have n1_ := Aside0.mk (blk_below BKq.out hb) | have n1_ := Aside0.mk (blk_below (blk_drewN BKq.out _) hb) | have n1_ := Aside0.mk (blk_below (blk_drew BKq.out) hb) | have n1_ := Aside0.mk (blk_below (blk_alloc BKq.out _) hb) | have n1_ := Aside0.mk (blk_below (by (with_reducible repeat (first | refine blk_drewN ?_ _ | refine blk_drew ?_ | refine blk_alloc ?_ _)); exact BKq.out) hb)); clear HB BKq; have HB := n0_; have BKq := n1_; clear n0_ n1_ hb))
  go_loopw [6] (fun v6 w' => ∃ (i : Nat) (D : Int), i ≤ 6 ∧ v6 = .int .i64 i ∧ Aside0 (w'.heap[gq]? = some (.cells (actC D n b pk) 53 (0, 0))) ∧ Aside0 (w'.heap[gd]? = some (.cells (drow (.slice none 0 0) none 0 0 (.slice none 0 0) 0 0 false) 60 (0, 0))) ∧ Aside0 (Below w.heap.size w w')) (fun v6 _ => 6 - (intOf v6).toNat)
  case atStart => exact ⟨0, d, by decide, rfl, BKq, BKd, HB⟩
  case round =>
    clear BKq BKd HB
    obtain ⟨i, D, hi, rfl, BKq, BKd, HB⟩ := hrel
    by_cases hlt : i < 6
    · have i1 : (0 : Int) ≤ (i : Int) := Int.natCast_nonneg i
      have i2 : decide ((i : Int) ≤ 5) = true := decide_eq_true (by omega)
      have i3 : wrap64 ((i : Int) + 1) = (i : Int) + 1 := by unfold wrap64; omega
      have HI := Aside0.mk hlt
      have q0 : wr.cell? ⟨gq, 0, none⟩ = some (.int .i64 D) := (blk_cell BKq.out 0).trans (actC_0 _ _ _ _)
      have z0 := blk_frozen BKq.out 0
      go_upto_region 8 with (fail)
      have nd := Aside0.mk ((heap_setCell_other wr ⟨gq, 0, none⟩ gd (.int .i64 (i : Int)) (show gd ≠ gq from NEqd.out.symm)).trans BKd.out)
      have nq := Aside0.mk (blk_put BKq.out 0 (.int .i64 (i : Int)) (actC_set _ _ _ _ _))
      have nb := Aside0.mk (show Below w.heap.size w (wr.setCell ⟨gq, 0, none⟩ (.int .i64 (i : Int))) from HB.out.setCell (show w.heap.size ≤ gq from Gq.out) _)
      generalize wr.setCell ⟨gq, 0, none⟩ (.int .i64 (i : Int)) = w8 at nq nb nd ⊢
      clear BKq HB q0 z0 BKd
      have BKq := nq
      have HB := nb
      have BKd := nd
      clear nq nb nd
      go_wp2_with (first
        | ((with_reducible refine gate_dst (N := 20) rfl ?_); refine wpList_load_row rfl 53 (.tmp 2) rfl gq rfl 53 (actC (i : Int) n b pk) (0, 0) _ (by (with_reducible repeat (first | refine blk_drewN ?_ _ | refine blk_drew ?_ | refine blk_alloc ?_ _)); exact BKq.out) Try.underlying53 rfl (actC_info _ _ _ _ LB.out) ?_)
        | (go_at_call 25; with_reducible refine (answer.zero _ _ (ZV.row (by (with_reducible repeat (first | refine blk_drewN ?_ _ | refine blk_drew ?_ | refine blk_alloc ?_ _)); exact BKd.out)) i HI.out n b pk LB.out).mono ?_; rintro e' w' ⟨rfl, hb⟩; have n0_ := Aside0.mk (below_step (by repeat (first | (with_reducible first | exact HB.out | apply below_alloc | apply pw_below_drewN | apply below_drew1) | exact HB.out)) hb); (first | have n1_ := Aside0.mk (blk_below BKq.out hb) | have n1_ := Aside0.mk (blk_below (blk_drewN BKq.out _) hb) | have n1_ := Aside0.mk (blk_below (blk_drew BKq.out) hb) | have n1_ := Aside0.mk (blk_below (blk_alloc BKq.out _) hb) | have n1_ := Aside0.mk (blk_below (by (with_reducible repeat (first | refine blk_drewN ?_ _ | refine blk_drew ?_ | refine blk_alloc ?_ _)); exact BKq.out) hb)); (first | have n2_ := Aside0.mk (blk_below BKd.out hb) | have n2_ := Aside0.mk (blk_below (blk_drewN BKd.out _) hb) | have n2_ := Aside0.mk (blk_below (blk_drew BKd.out) hb) | have n2_ := Aside0.mk (blk_below (blk_alloc BKd.out _) hb) | have n2_ := Aside0.mk (blk_below (by (with_reducible repeat (first | refine blk_drewN ?_ _ | refine blk_drew ?_ | refine blk_alloc ?_ _)); exact BKd.out) hb)); clear HB BKq BKd; have HB := n0_; have BKq := n1_; have BKd := n2_; clear n0_ n1_ n2_ hb)
        | ((with_reducible refine gate_dst (N := 7) rfl ?_); refine box_event ?hg (N := 7) ?hd (cs := bcells zero64) (t := 29) ?hr ?_; (case hd => rfl); (case hg => rfl); (case hr => exact alloc29_run rfl _); intro gx hg w1x hbox hb; have Gx := Aside0.mk (show w.heap.size ≤ gx from by rw [hg]; exact below_size (by repeat (first | (with_reducible first | exact HB.out | apply below_alloc | apply pw_below_drewN | apply below_drew1) | exact HB.out))); have NEqx := Aside0.mk (show gq ≠ gx from by rw [hg]; exact Nat.ne_of_lt (blk_lt (by (with_reducible repeat (first | refine blk_drewN ?_ _ | refine blk_drew ?_ | refine blk_alloc ?_ _)); exact BKq.out))); have NEdx := Aside0.mk (show gd ≠ gx from by rw [hg]; exact Nat.ne_of_lt (blk_lt (by (with_reducible repeat (first | refine blk_drewN ?_ _ | refine blk_drew ?_ | refine blk_alloc ?_ _)); exact BKd.out))); have BKx := Aside0.mk hbox; clear hbox hg; have n0_ := Aside0.mk (below_step (by repeat (first | (with_reducible first | exact HB.out | apply below_alloc | apply pw_below_drewN | apply below_drew1) | exact HB.out)) hb); (first | have n1_ := Aside0.mk (blk_below BKq.out hb) | have n1_ := Aside0.mk (blk_below (blk_drewN BKq.out _) hb) | have n1_ := Aside0.mk (blk_below (blk_drew BKq.out) hb) | have n1_ := Aside0.mk (blk_below (blk_alloc BKq.out _) hb) | have n1_ := Aside0.mk (blk_below (by (with_reducible repeat (first | refine blk_drewN ?_ _ | refine blk_drew ?_ | refine blk_alloc ?_ _)); exact BKq.out) hb)); (first | have n2_ := Aside0.mk (blk_below BKd.out hb) | have n2_ := Aside0.mk (blk_below (blk_drewN BKd.out _) hb) | have n2_ := Aside0.mk (blk_below (blk_drew BKd.out) hb) | have n2_ := Aside0.mk (blk_below (blk_alloc BKd.out _) hb) | have n2_ := Aside0.mk (blk_below (by (with_reducible repeat (first | refine blk_drewN ?_ _ | refine blk_drew ?_ | refine blk_alloc ?_ _)); exact BKd.out) hb)); clear HB BKq BKd; have HB := n0_; have BKq := n1_; have BKd := n2_; clear n0_ n1_ n2_ hb)
        | (refine wpList_store_row rfl 29 (.tmp 7) (.tmp 22) rfl gx (bcells zero64) rfl (by rfl) 29 (bcells zero64) (by (with_reducible repeat (first | refine blk_drewN ?_ _ | refine blk_drew ?_ | refine blk_alloc ?_ _)); exact BKx.out) (seal_size _ rfl) rfl (bcells_all _) ?_; have n0 := Aside0.mk (below_setRow (show Below w.heap.size w _ from by repeat (first | (with_reducible first | exact HB.out | apply below_alloc | apply pw_below_drewN | apply below_drew1) | exact HB.out)) (show w.heap.size ≤ gx from Gx.out) (bcells zero64)); have n1 := Aside0.mk (setRow_heap _ _ _ (bcells zero64) _ _ (by (with_reducible repeat (first | refine blk_drewN ?_ _ | refine blk_drew ?_ | refine blk_alloc ?_ _)); exact BKx.out)); have kq := Aside0.mk ((setRow_other _ gx gq (bcells zero64) NEqx.out).trans (by (with_reducible repeat (first | refine blk_drewN ?_ _ | refine blk_drew ?_ | refine blk_alloc ?_ _)); exact BKq.out)); have kd := Aside0.mk ((setRow_other _ gx gd (bcells zero64) NEdx.out).trans (by (with_reducible repeat (first | refine blk_drewN ?_ _ | refine blk_drew ?_ | refine blk_alloc ?_ _)); exact BKd.out)); generalize World.setRow _ _ _ = w3 at n0 n1 kq kd; clear HB BKx BKq BKd; have HB := n0; have BKx := n1; have BKq := kq; clear kq; have BKd := kd; clear kd; clear n0 n1))
      exact ⟨⟨i + 1, (i : Int), hlt, by first | rfl | (rw [Int.natCast_add]; rfl), BKq, BKd, HB⟩, by show 6 - (i + 1) < 6 - i; omega⟩
    · have hin : i = 6 := by omega
      subst hin
      have d6 : decide (((6 : Nat) : Int) ≤ 5) = false := rfl
      go_wp2_with (first
        | (go_at_call 26; with_reducible refine (Blocks.zero _ _ (ZV.row (by (with_reducible repeat (first | refine blk_drewN ?_ _ | refine blk_drew ?_ | refine blk_alloc ?_ _)); exact BKd.out))).mono ?_; rintro e' w' ⟨rfl, hw⟩; subst w')
        | (go_at_call 13; with_reducible refine (Steps.zero _ _ (ZV.row (by (with_reducible repeat (first | refine blk_drewN ?_ _ | refine blk_drew ?_ | refine blk_alloc ?_ _)); exact BKd.out))).mono ?_; rintro e' w' ⟨rfl, hw⟩; subst w')
        | (go_at_call 16; with_reducible refine (Loose.zero _ _ (ZV.row (by (with_reducible repeat (first | refine blk_drewN ?_ _ | refine blk_drew ?_ | refine blk_alloc ?_ _)); exact BKd.out))).mono ?_; rintro e' w' ⟨rfl, hw⟩; subst w')
        | (go_at_call 12; with_reducible refine (Dark.zero _ _ (ZV.row (by (with_reducible repeat (first | refine blk_drewN ?_ _ | refine blk_drew ?_ | refine blk_alloc ?_ _)); exact BKd.out))).mono ?_; rintro e' w' ⟨rfl, hw⟩; subst w')
        | (go_at_call 20; with_reducible refine (Copy.zero _ _ (ZV.row (by (with_reducible repeat (first | refine blk_drewN ?_ _ | refine blk_drew ?_ | refine blk_alloc ?_ _)); exact BKd.out))).mono ?_; rintro e' w' ⟨rfl, hw⟩; subst w')
        | (go_at_call 14; with_reducible refine (law_lives.calls _).mono ?_; rintro e' w' ⟨rfl, hb⟩; have n0_ := Aside0.mk (below_step (by repeat (first | (with_reducible first | exact HB.out | apply below_alloc | apply pw_below_drewN | apply below_drew1) | exact HB.out)) hb); clear HB; have HB := n0_; clear n0_ hb))
      go_ret
      exact ⟨rfl, by repeat (first | (with_reducible first | exact HB.out | apply below_alloc | apply pw_below_drewN | apply below_drew1) | exact HB.out)⟩

theorem diskNil.calls (w : World) (d n : Int) (b : List Int) (pk : Value) (hb : b.length = 64) (z : Bool) :
    Calls Try.prog 7 #[.agg (actC d n b pk), .bool z] w fun e' w' => e' = .returned (.bool true) ∧ Below w.heap.size w w' := by
  cases z
  · exact diskNil.calls0 w d n b pk hb
  · exact diskNil.calls1 w d n b pk hb
end Go.Proofs.Ytlnfdhcpnbhkdaa.GA
