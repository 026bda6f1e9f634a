/- Blocks in memory: loads, stores and copies of 64 bytes. No condition. -/
import Derived.Test.YtlnfdhcpnbhkdaaD1
import Derived.Laws.CopyOwn
import Derived.ChangeKeysEq
import Derived.Deep.RegionHeld3
import Derived.Deep.MidRow
namespace Go.Proofs.Ytlnfdhcpnbhkdaa.GA
open Go.RowKit Go.Proofs.YtlnfdhcpnbhkdaaW.PrintWords Go.Proofs.YtlnfdhcpnbhkdaaW.PrintLast Go.Proofs.YtlnfdhcpnbhkdaaW.PrintMore
set_option linter.unusedVariables false
set_option linter.unusedSimpArgs false


theorem alloc29_make (W : World) : (Instr.alloc 29 true (.tuple #[])).run Try.prog W = .ok (.pointer (some ⟨W.heap.size, 0, none⟩)) (W.alloc (.cells (bcells zero64) 29)) := by kernel_rfl
theorem alloc29_run {o : Oper} {a : Act} (ho : o.op = .alloc 29) (W : World) : (execOp a.eval o).run Try.prog W = .ok (.value (.pointer (some ⟨W.heap.size, 0, none⟩))) (W.alloc (.cells (bcells zero64) 29 (0, 0))) := by
  unfold execOp
  simp only [ho, Sem.run_bind, alloc29_make, Result.andThen_ok, Sem.run_pure]
theorem ZV.below {w w' : World} {v : Value} (h : ZV w v) (hb : Below w.heap.size w w') : ZV w' v := by
  rcases h with rfl | ⟨gd, rfl, hg⟩
  · exact .inl rfl
  · exact .inr ⟨gd, rfl, blk_below hg hb⟩
/-- block i of rows of 64 -/
def blkAt (F : List Int) (i : Nat) : List Int := (F.drop (i * 64)).take 64
theorem blkAt_len (F : List Int) (i n : Nat) (hl : F.length = n * 64) (hi : i < n) : (blkAt F i).length = 64 := by
  unfold blkAt
  rw [List.length_take, List.length_drop]
  omega
theorem range_blk {w : World} {g n : Nat} {t : TypeId} {F : List Int} (hb : w.heap[g]? = some (.cells (bcells F) t (0, 0))) (i : Nat) (hl : F.length = n * 64) (hi : i < n) : w.rangeAt g (i * 64) (encs (Value.int .u8) (blkAt F i)) := range_bc hb (i * 64) _ fun j hj => by
  rw [blkAt_len F i n hl hi] at hj
  unfold blkAt
  rw [List.getElem?_take_of_lt hj, List.getElem?_drop]

set_option maxHeartbeats 8000000 in
set_option maxRecDepth 100000 in
theorem Read.zero (w : World) (v : Value) (hv : ZV w v) (i : Int) :
    Calls Try.prog 19 #[v, .int .i64 i] w fun e w' => e = .returned (.tuple #[.agg (bcells zero64), .int .i64 1]) ∧ Below w.heap.size w w' := by
  have HB := Aside0.mk (Below.refl w.heap.size w)
  have HV := Aside0.mk hv
  clear hv
  go_enter Try.func19, Try.ntmps19
  go_wp2_with (first
    | ((with_reducible refine gate_dst (N := 4) rfl ?_); refine box_event ?hg (N := 4) ?hd (cs := bcells zero64) (t := 29) ?hr ?_; (case hd => rfl); (case hg => rfl); (case hr => exact alloc29_run rfl _); intro gx hg w1x hbox hb; have Gx := Aside0.mk (show w.heap.size ≤ gx from by rw [hg]; exact below_size (by repeat (first | (with_reducible first | exact HB.out | apply below_alloc | apply pw_below_drewN | apply below_drew1) | exact HB.out))); have BKx := Aside0.mk hbox; clear hbox hg; have n0_ := Aside0.mk (below_step (by repeat (first | (with_reducible first | exact HB.out | apply below_alloc | apply pw_below_drewN | apply below_drew1) | exact HB.out)) hb); clear HB; have HB := n0_; clear n0_ hb)
    | (refine wpList_store_row rfl 29 (.tmp 4) (.tmp 12) rfl gx (bcells zero64) rfl (by rfl) 29 (bcells zero64) (by (with_reducible repeat (first | refine blk_drewN ?_ _ | refine blk_drew ?_ | refine blk_alloc ?_ _)); exact BKx.out) (seal_size _ rfl) rfl (bcells_all _) ?_; have n0 := Aside0.mk (below_setRow (show Below w.heap.size w _ from by repeat (first | (with_reducible first | exact HB.out | apply below_alloc | apply pw_below_drewN | apply below_drew1) | exact HB.out)) (show w.heap.size ≤ gx from Gx.out) (bcells zero64)); have n1 := Aside0.mk (setRow_heap _ _ _ (bcells zero64) _ _ (by (with_reducible repeat (first | refine blk_drewN ?_ _ | refine blk_drew ?_ | refine blk_alloc ?_ _)); exact BKx.out)); generalize World.setRow _ _ _ = w3 at n0 n1; clear HB BKx; have HB := n0; have BKx := n1; clear n0 n1)
    | (go_at_call 27; with_reducible refine (day.zero _ v (ZV.below HV.out (by repeat (first | (with_reducible first | exact HB.out | apply below_alloc | apply pw_below_drewN | apply below_drew1) | exact HB.out)))).mono ?_; rintro e' w' ⟨rfl, rfl⟩))
  refine bodyPost_ret (results_ct rfl _ _ gx 29 (bcells zero64) (0, 0) _ rfl BKx.out Try.underlying29 rfl (seal_size _ rfl)) rfl ?_
  exact ⟨rfl, HB.out⟩

set_option maxHeartbeats 8000000 in
set_option maxRecDepth 100000 in
theorem Sure.zero (w : World) (v : Value) (hv : ZV w v) (i : Int) :
    Calls Try.prog 18 #[v, .int .i64 i] w fun e w' => e = .returned (.tuple #[.agg (bcells zero64), .int .i64 1]) ∧ Below w.heap.size w w' := by
  have HB := Aside0.mk (Below.refl w.heap.size w)
  have HV := Aside0.mk hv
  clear hv
  go_enter Try.func18, Try.ntmps18
  go_wp2_with (first
    | ((with_reducible refine gate_dst (N := 4) rfl ?_); refine box_event ?hg (N := 4) ?hd (cs := bcells zero64) (t := 29) ?hr ?_; (case hd => rfl); (case hg => rfl); (case hr => exact alloc29_run rfl _); intro gx hg w1x hbox hb; have Gx := Aside0.mk (show w.heap.size ≤ gx from by rw [hg]; exact below_size (by repeat (first | (with_reducible first | exact HB.out | apply below_alloc | apply pw_below_drewN | apply below_drew1) | exact HB.out))); have BKx := Aside0.mk hbox; clear hbox hg; have n0_ := Aside0.mk (below_step (by repeat (first | (with_reducible first | exact HB.out | apply below_alloc | apply pw_below_drewN | apply below_drew1) | exact HB.out)) hb); clear HB; have HB := n0_; clear n0_ hb)
    | (refine wpList_store_row rfl 29 (.tmp 4) (.tmp 12) rfl gx (bcells zero64) rfl (by rfl) 29 (bcells zero64) (by (with_reducible repeat (first | refine blk_drewN ?_ _ | refine blk_drew ?_ | refine blk_alloc ?_ _)); exact BKx.out) (seal_size _ rfl) rfl (bcells_all _) ?_; have n0 := Aside0.mk (below_setRow (show Below w.heap.size w _ from by repeat (first | (with_reducible first | exact HB.out | apply below_alloc | apply pw_below_drewN | apply below_drew1) | exact HB.out)) (show w.heap.size ≤ gx from Gx.out) (bcells zero64)); have n1 := Aside0.mk (setRow_heap _ _ _ (bcells zero64) _ _ (by (with_reducible repeat (first | refine blk_drewN ?_ _ | refine blk_drew ?_ | refine blk_alloc ?_ _)); exact BKx.out)); generalize World.setRow _ _ _ = w3 at n0 n1; clear HB BKx; have HB := n0; have BKx := n1; clear n0 n1)
    | (go_at_call 31; with_reducible refine (known.zero _ v (ZV.below HV.out (by repeat (first | (with_reducible first | exact HB.out | apply below_alloc | apply pw_below_drewN | apply below_drew1) | exact HB.out))) i).mono ?_; rintro e' w' ⟨rfl, rfl⟩))
  refine bodyPost_ret (results_ct rfl _ _ gx 29 (bcells zero64) (0, 0) _ rfl BKx.out Try.underlying29 rfl (seal_size _ rfl)) rfl ?_
  exact ⟨rfl, HB.out⟩

set_option maxHeartbeats 8000000 in
set_option maxRecDepth 100000 in
theorem Read.night (w : World) (gd : Nat) (a : Value) (H : Option Addr) (n c : Nat) (bt : Value) (al st : Int)  (hg : w.heap[gd]? = some (.cells (drow a H n c bt al st true) 60 (0, 0))) (hn : 0 < n) (i : Int) :
    Calls Try.prog 19 #[.pointer (some ⟨gd, 0, none⟩), .int .i64 i] w fun e w' => e = .returned (.tuple #[.agg (bcells zero64), .int .i64 9]) ∧ Below w.heap.size w w' := by
  have HB := Aside0.mk (Below.refl w.heap.size w)
  have BKd := Aside0.mk hg
  clear hg
  go_enter Try.func19, Try.ntmps19
  go_wp2_with (first
    | ((with_reducible refine gate_dst (N := 4) rfl ?_); refine box_event ?hg (N := 4) ?hd (cs := bcells zero64) (t := 29) ?hr ?_; (case hd => rfl); (case hg => rfl); (case hr => exact alloc29_run rfl _); intro gx hg w1x hbox hb; have Gx := Aside0.mk (show w.heap.size ≤ gx from by rw [hg]; exact below_size (by repeat (first | (with_reducible first | exact HB.out | apply below_alloc | apply pw_below_drewN | apply below_drew1) | exact HB.out))); have BKx := Aside0.mk hbox; clear hbox hg; have n0_ := Aside0.mk (below_step (by repeat (first | (with_reducible first | exact HB.out | apply below_alloc | apply pw_below_drewN | apply below_drew1) | exact HB.out)) hb); (first | have n1_ := Aside0.mk (blk_below BKd.out hb) | have n1_ := Aside0.mk (blk_below (blk_drewN BKd.out _) hb) | have n1_ := Aside0.mk (blk_below (blk_drew BKd.out) hb) | have n1_ := Aside0.mk (blk_below (blk_alloc BKd.out _) hb) | have n1_ := Aside0.mk (blk_below (by (with_reducible repeat (first | refine blk_drewN ?_ _ | refine blk_drew ?_ | refine blk_alloc ?_ _)); exact BKd.out) hb)); clear HB BKd; have HB := n0_; have BKd := n1_; clear n0_ n1_ hb)
    | (refine wpList_store_row rfl 29 (.tmp 4) (.tmp 12) rfl gx (bcells zero64) rfl (by rfl) 29 (bcells zero64) (by (with_reducible repeat (first | refine blk_drewN ?_ _ | refine blk_drew ?_ | refine blk_alloc ?_ _)); exact BKx.out) (seal_size _ rfl) rfl (bcells_all _) ?_; have n0 := Aside0.mk (below_setRow (show Below w.heap.size w _ from by repeat (first | (with_reducible first | exact HB.out | apply below_alloc | apply pw_below_drewN | apply below_drew1) | exact HB.out)) (show w.heap.size ≤ gx from Gx.out) (bcells zero64)); have n1 := Aside0.mk (setRow_heap _ _ _ (bcells zero64) _ _ (by (with_reducible repeat (first | refine blk_drewN ?_ _ | refine blk_drew ?_ | refine blk_alloc ?_ _)); exact BKx.out)); generalize World.setRow _ _ _ = w3 at n0 n1; clear HB BKx; have HB := n0; have BKx := n1; clear n0 n1)
    | (go_at_call 27; with_reducible refine (day.night _ gd a H n c bt al st (by (with_reducible repeat (first | refine blk_drewN ?_ _ | refine blk_drew ?_ | refine blk_alloc ?_ _)); exact BKd.out) hn).mono ?_; rintro e' w' ⟨rfl, rfl⟩))
  refine bodyPost_ret (results_ct rfl _ _ gx 29 (bcells zero64) (0, 0) _ rfl BKx.out Try.underlying29 rfl (seal_size _ rfl)) rfl ?_
  exact ⟨rfl, HB.out⟩

set_option maxHeartbeats 8000000 in
set_option maxRecDepth 100000 in
theorem Read.bad (w : World) (gd : Nat) (a : Value) (H : Option Addr) (n c : Nat) (bt : Value) (al st : Int)  (hg : w.heap[gd]? = some (.cells (drow a H n c bt al st false) 60 (0, 0))) (hn : 0 < n) (i : Int) (hi : i < 0 ∨ (n : Int) ≤ i) :
    Calls Try.prog 19 #[.pointer (some ⟨gd, 0, none⟩), .int .i64 i] w fun e w' => e = .returned (.tuple #[.agg (bcells zero64), .int .i64 2]) ∧ Below w.heap.size w w' := by
  have HB := Aside0.mk (Below.refl w.heap.size w)
  have BKd := Aside0.mk hg
  clear hg
  have d1 : ((knownR n i) == 0) = false := by unfold knownR; rw [if_pos hi]; rfl
  have d2 : ((knownR n i) != 0) = true := by unfold knownR; rw [if_pos hi]; rfl
  have d3 : knownR n i = 2 := by unfold knownR; rw [if_pos hi]
  go_enter Try.func19, Try.ntmps19
  go_wp2_with (first
    | ((with_reducible refine gate_dst (N := 4) rfl ?_); refine box_event ?hg (N := 4) ?hd (cs := bcells zero64) (t := 29) ?hr ?_; (case hd => rfl); (case hg => rfl); (case hr => exact alloc29_run rfl _); intro gx hg w1x hbox hb; have Gx := Aside0.mk (show w.heap.size ≤ gx from by rw [hg]; exact below_size (by repeat (first | (with_reducible first | exact HB.out | apply below_alloc | apply pw_below_drewN | apply below_drew1) | exact HB.out))); have BKx := Aside0.mk hbox; clear hbox hg; have n0_ := Aside0.mk (below_step (by repeat (first | (with_reducible first | exact HB.out | apply below_alloc | apply pw_below_drewN | apply below_drew1) | exact HB.out)) hb); (first | have n1_ := Aside0.mk (blk_below BKd.out hb) | have n1_ := Aside0.mk (blk_below (blk_drewN BKd.out _) hb) | have n1_ := Aside0.mk (blk_below (blk_drew BKd.out) hb) | have n1_ := Aside0.mk (blk_below (blk_alloc BKd.out _) hb) | have n1_ := Aside0.mk (blk_below (by (with_reducible repeat (first | refine blk_drewN ?_ _ | refine blk_drew ?_ | refine blk_alloc ?_ _)); exact BKd.out) hb)); clear HB BKd; have HB := n0_; have BKd := n1_; clear n0_ n1_ hb)
    | (refine wpList_store_row rfl 29 (.tmp 4) (.tmp 19) rfl gx (bcells zero64) rfl (by rfl) 29 (bcells zero64) (by (with_reducible repeat (first | refine blk_drewN ?_ _ | refine blk_drew ?_ | refine blk_alloc ?_ _)); exact BKx.out) (seal_size _ rfl) rfl (bcells_all _) ?_; have n0 := Aside0.mk (below_setRow (show Below w.heap.size w _ from by repeat (first | (with_reducible first | exact HB.out | apply below_alloc | apply pw_below_drewN | apply below_drew1) | exact HB.out)) (show w.heap.size ≤ gx from Gx.out) (bcells zero64)); have n1 := Aside0.mk (setRow_heap _ _ _ (bcells zero64) _ _ (by (with_reducible repeat (first | refine blk_drewN ?_ _ | refine blk_drew ?_ | refine blk_alloc ?_ _)); exact BKx.out)); generalize World.setRow _ _ _ = w3 at n0 n1; clear HB BKx; have HB := n0; have BKx := n1; clear n0 n1)
    | (go_at_call 27; with_reducible refine (day.ok _ gd a H n c bt al st (by (with_reducible repeat (first | refine blk_drewN ?_ _ | refine blk_drew ?_ | refine blk_alloc ?_ _)); exact BKd.out) hn).mono ?_; rintro e' w' ⟨rfl, rfl⟩)
    | (go_at_call 31; with_reducible refine (known.row _ gd a H n c bt al st false (by (with_reducible repeat (first | refine blk_drewN ?_ _ | refine blk_drew ?_ | refine blk_alloc ?_ _)); exact BKd.out) i hn).mono ?_; rintro e' w' ⟨rfl, rfl⟩))
  refine bodyPost_ret (results_ct rfl _ _ gx 29 (bcells zero64) (0, 0) _ rfl BKx.out Try.underlying29 rfl (seal_size _ rfl)) rfl ?_
  exact ⟨rfl, HB.out⟩

set_option maxHeartbeats 8000000 in
set_option maxRecDepth 100000 in
theorem Sure.bad (w : World) (gd : Nat) (a : Value) (H : Option Addr) (n c : Nat) (bt : Value) (al st : Int) (ni : Bool) (hg : w.heap[gd]? = some (.cells (drow a H n c bt al st ni) 60 (0, 0))) (hn : 0 < n) (i : Int) (hi : i < 0 ∨ (n : Int) ≤ i) :
    Calls Try.prog 18 #[.pointer (some ⟨gd, 0, none⟩), .int .i64 i] w fun e w' => e = .returned (.tuple #[.agg (bcells zero64), .int .i64 2]) ∧ Below w.heap.size w w' := by
  have HB := Aside0.mk (Below.refl w.heap.size w)
  have BKd := Aside0.mk hg
  clear hg
  have d1 : ((knownR n i) == 0) = false := by unfold knownR; rw [if_pos hi]; rfl
  have d2 : ((knownR n i) != 0) = true := by unfold knownR; rw [if_pos hi]; rfl
  have d3 : knownR n i = 2 := by unfold knownR; rw [if_pos hi]
  go_enter Try.func18, Try.ntmps18
  go_wp2_with (first
    | ((with_reducible refine gate_dst (N := 4) rfl ?_); refine box_event ?hg (N := 4) ?hd (cs := bcells zero64) (t := 29) ?hr ?_; (case hd => rfl); (case hg => rfl); (case hr => exact alloc29_run rfl _); intro gx hg w1x hbox hb; have Gx := Aside0.mk (show w.heap.size ≤ gx from by rw [hg]; exact below_size (by repeat (first | (with_reducible first | exact HB.out | apply below_alloc | apply pw_below_drewN | apply below_drew1) | exact HB.out))); have BKx := Aside0.mk hbox; clear hbox hg; have n0_ := Aside0.mk (below_step (by repeat (first | (with_reducible first | exact HB.out | apply below_alloc | apply pw_below_drewN | apply below_drew1) | exact HB.out)) hb); (first | have n1_ := Aside0.mk (blk_below BKd.out hb) | have n1_ := Aside0.mk (blk_below (blk_drewN BKd.out _) hb) | have n1_ := Aside0.mk (blk_below (blk_drew BKd.out) hb) | have n1_ := Aside0.mk (blk_below (blk_alloc BKd.out _) hb) | have n1_ := Aside0.mk (blk_below (by (with_reducible repeat (first | refine blk_drewN ?_ _ | refine blk_drew ?_ | refine blk_alloc ?_ _)); exact BKd.out) hb)); clear HB BKd; have HB := n0_; have BKd := n1_; clear n0_ n1_ hb)
    | (refine wpList_store_row rfl 29 (.tmp 4) (.tmp 12) rfl gx (bcells zero64) rfl (by rfl) 29 (bcells zero64) (by (with_reducible repeat (first | refine blk_drewN ?_ _ | refine blk_drew ?_ | refine blk_alloc ?_ _)); exact BKx.out) (seal_size _ rfl) rfl (bcells_all _) ?_; have n0 := Aside0.mk (below_setRow (show Below w.heap.size w _ from by repeat (first | (with_reducible first | exact HB.out | apply below_alloc | apply pw_below_drewN | apply below_drew1) | exact HB.out)) (show w.heap.size ≤ gx from Gx.out) (bcells zero64)); have n1 := Aside0.mk (setRow_heap _ _ _ (bcells zero64) _ _ (by (with_reducible repeat (first | refine blk_drewN ?_ _ | refine blk_drew ?_ | refine blk_alloc ?_ _)); exact BKx.out)); generalize World.setRow _ _ _ = w3 at n0 n1; clear HB BKx; have HB := n0; have BKx := n1; clear n0 n1)
    | (go_at_call 31; with_reducible refine (known.row _ gd a H n c bt al st ni (by (with_reducible repeat (first | refine blk_drewN ?_ _ | refine blk_drew ?_ | refine blk_alloc ?_ _)); exact BKd.out) i hn).mono ?_; rintro e' w' ⟨rfl, rfl⟩))
  refine bodyPost_ret (results_ct rfl _ _ gx 29 (bcells zero64) (0, 0) _ rfl BKx.out Try.underlying29 rfl (seal_size _ rfl)) rfl ?_
  exact ⟨rfl, HB.out⟩

set_option maxHeartbeats 8000000 in
set_option maxRecDepth 100000 in
theorem Read.ok (w : World) (gd ga : Nat) (H : Option Addr) (n c : Nat) (bt : Value) (al st : Int) (hg : w.heap[gd]? = some (.cells (drow (.slice (some ⟨ga, 0, none⟩) n n) H n c bt al st false) 60 (0, 0))) (F : List Int) (ha : w.heap[ga]? = some (.cells (bcells F) 29 (0, 0))) (hl : F.length = n * 64) (i : Nat) (hi : i < n) :
    Calls Try.prog 19 #[.pointer (some ⟨gd, 0, none⟩), .int .i64 i] w fun e w' => e = .returned (.tuple #[.agg (bcells (blkAt F i)), .int .i64 0]) ∧ Below w.heap.size w w' := by
  have HB := Aside0.mk (Below.refl w.heap.size w)
  have BKd := Aside0.mk hg
  have BKa := Aside0.mk ha
  have LF := Aside0.mk hl
  have LX := Aside0.mk (blkAt_len F i n hl hi)
  have HI := Aside0.mk hi
  have x0 : w.cell? ⟨gd, 0, none⟩ = some (.slice (some ⟨ga, 0, none⟩) n n) := (blk_cell hg 0).trans rfl
  have i0 : (0 : Int) ≤ (i : Int) := Int.natCast_nonneg i
  have i1 : (i : Int) < (n : Int) := by omega
  have hn : 0 < n := by omega
  clear hg ha hl hi
  go_enter Try.func19, Try.ntmps19
  go_wp2_with (first
    | ((with_reducible refine gate_dst (N := 4) rfl ?_); refine box_event ?hg (N := 4) ?hd (cs := bcells zero64) (t := 29) ?hr ?_; (case hd => rfl); (case hg => rfl); (case hr => exact alloc29_run rfl _); intro gx hg w1x hbox hb; have Gx := Aside0.mk (show w.heap.size ≤ gx from by rw [hg]; exact below_size (by repeat (first | (with_reducible first | exact HB.out | apply below_alloc | apply pw_below_drewN | apply below_drew1) | exact HB.out))); have BKx := Aside0.mk hbox; clear hbox hg; have n0_ := Aside0.mk (below_step (by repeat (first | (with_reducible first | exact HB.out | apply below_alloc | apply pw_below_drewN | apply below_drew1) | exact HB.out)) hb); (first | have n1_ := Aside0.mk (blk_below BKd.out hb) | have n1_ := Aside0.mk (blk_below (blk_drewN BKd.out _) hb) | have n1_ := Aside0.mk (blk_below (blk_drew BKd.out) hb) | have n1_ := Aside0.mk (blk_below (blk_alloc BKd.out _) hb) | have n1_ := Aside0.mk (blk_below (by (with_reducible repeat (first | refine blk_drewN ?_ _ | refine blk_drew ?_ | refine blk_alloc ?_ _)); exact BKd.out) hb)); (first | have n2_ := Aside0.mk (blk_below BKa.out hb) | have n2_ := Aside0.mk (blk_below (blk_drewN BKa.out _) hb) | have n2_ := Aside0.mk (blk_below (blk_drew BKa.out) hb) | have n2_ := Aside0.mk (blk_below (blk_alloc BKa.out _) hb) | have n2_ := Aside0.mk (blk_below (by (with_reducible repeat (first | refine blk_drewN ?_ _ | refine blk_drew ?_ | refine blk_alloc ?_ _)); exact BKa.out) hb)); clear HB BKd BKa; have HB := n0_; have BKd := n1_; have BKa := n2_; clear n0_ n1_ n2_ hb; have x1_ := (show w1x.cell? ⟨gd, 0, none⟩ = some (.slice (some ⟨ga, 0, none⟩) n n) from (blk_cell BKd.out 0).trans rfl); clear x0)
    | (go_at_call 27; with_reducible refine (day.ok _ gd _ H n c bt al st (by (with_reducible repeat (first | refine blk_drewN ?_ _ | refine blk_drew ?_ | refine blk_alloc ?_ _)); exact BKd.out) hn).mono ?_; rintro e' w' ⟨rfl, rfl⟩)
    | (go_at_call 31; with_reducible refine (known.ok _ gd _ H n c bt al st false (by (with_reducible repeat (first | refine blk_drewN ?_ _ | refine blk_drew ?_ | refine blk_alloc ?_ _)); exact BKd.out) i hn i0 i1).mono ?_; rintro e' w' ⟨rfl, rfl⟩)
    | ((with_reducible refine gate_dst (N := 27) rfl ?_); refine wpList_load_blk rfl (.tmp 26) rfl ga (i * 64) rfl (blkAt F i) LX.out (range_blk (by (with_reducible repeat (first | refine blk_drewN ?_ _ | refine blk_drew ?_ | refine blk_alloc ?_ _)); exact BKa.out) i LF.out HI.out) ?_)
    | (refine wpList_store_row rfl 29 (.tmp 4) (.tmp 27) rfl gx (bcells (blkAt F i)) rfl (by rfl) 29 (bcells zero64) (by (with_reducible repeat (first | refine blk_drewN ?_ _ | refine blk_drew ?_ | refine blk_alloc ?_ _)); exact BKx.out) (seal_size _ LX.out) (by rw [bcells_size, bcells_size, LX.out]; rfl) (bcells_all _) ?_; have n0 := Aside0.mk (below_setRow (show Below w.heap.size w _ from by repeat (first | (with_reducible first | exact HB.out | apply below_alloc | apply pw_below_drewN | apply below_drew1) | exact HB.out)) (show w.heap.size ≤ gx from Gx.out) (bcells (blkAt F i))); have n1 := Aside0.mk (setRow_heap _ _ _ (bcells (blkAt F i)) _ _ (by (with_reducible repeat (first | refine blk_drewN ?_ _ | refine blk_drew ?_ | refine blk_alloc ?_ _)); exact BKx.out)); generalize World.setRow _ _ _ = w3 at n0 n1; clear HB BKx; have HB := n0; have BKx := n1; clear n0 n1))
  refine bodyPost_ret (results_ct rfl _ _ gx 29 (bcells (blkAt F i)) (0, 0) _ rfl BKx.out Try.underlying29 rfl (seal_size _ LX.out)) rfl ?_
  exact ⟨rfl, HB.out⟩

set_option maxHeartbeats 8000000 in
set_option maxRecDepth 100000 in
theorem Sure.ok (w : World) (gd : Nat) (a : Value) (ga : Nat) (n : Nat) (bt : Value) (al st : Int) (ni : Bool) (hg : w.heap[gd]? = some (.cells (drow a (some ⟨ga, 0, none⟩) n n bt al st ni) 60 (0, 0))) (F : List Int) (ha : w.heap[ga]? = some (.cells (bcells F) 29 (0, 0))) (hl : F.length = n * 64) (i : Nat) (hi : i < n) :
    Calls Try.prog 18 #[.pointer (some ⟨gd, 0, none⟩), .int .i64 i] w fun e w' => e = .returned (.tuple #[.agg (bcells (blkAt F i)), .int .i64 0]) ∧ Below w.heap.size w w' := by
  have HB := Aside0.mk (Below.refl w.heap.size w)
  have BKd := Aside0.mk hg
  have BKa := Aside0.mk ha
  have LF := Aside0.mk hl
  have LX := Aside0.mk (blkAt_len F i n hl hi)
  have HI := Aside0.mk hi
  have x0 : w.cell? ⟨gd, 1, none⟩ = some (.slice (some ⟨ga, 0, none⟩) n n) := (blk_cell hg 1).trans rfl
  have i0 : (0 : Int) ≤ (i : Int) := Int.natCast_nonneg i
  have i1 : (i : Int) < (n : Int) := by omega
  have hn : 0 < n := by omega
  clear hg ha hl hi
  go_enter Try.func18, Try.ntmps18
  go_wp2_with (first
    | ((with_reducible refine gate_dst (N := 4) rfl ?_); refine box_event ?hg (N := 4) ?hd (cs := bcells zero64) (t := 29) ?hr ?_; (case hd => rfl); (case hg => rfl); (case hr => exact alloc29_run rfl _); intro gx hg w1x hbox hb; have Gx := Aside0.mk (show w.heap.size ≤ gx from by rw [hg]; exact below_size (by repeat (first | (with_reducible first | exact HB.out | apply below_alloc | apply pw_below_drewN | apply below_drew1) | exact HB.out))); have BKx := Aside0.mk hbox; clear hbox hg; have n0_ := Aside0.mk (below_step (by repeat (first | (with_reducible first | exact HB.out | apply below_alloc | apply pw_below_drewN | apply below_drew1) | exact HB.out)) hb); (first | have n1_ := Aside0.mk (blk_below BKd.out hb) | have n1_ := Aside0.mk (blk_below (blk_drewN BKd.out _) hb) | have n1_ := Aside0.mk (blk_below (blk_drew BKd.out) hb) | have n1_ := Aside0.mk (blk_below (blk_alloc BKd.out _) hb) | have n1_ := Aside0.mk (blk_below (by (with_reducible repeat (first | refine blk_drewN ?_ _ | refine blk_drew ?_ | refine blk_alloc ?_ _)); exact BKd.out) hb)); (first | have n2_ := Aside0.mk (blk_below BKa.out hb) | have n2_ := Aside0.mk (blk_below (blk_drewN BKa.out _) hb) | have n2_ := Aside0.mk (blk_below (blk_drew BKa.out) hb) | have n2_ := Aside0.mk (blk_below (blk_alloc BKa.out _) hb) | have n2_ := Aside0.mk (blk_below (by (with_reducible repeat (first | refine blk_drewN ?_ _ | refine blk_drew ?_ | refine blk_alloc ?_ _)); exact BKa.out) hb)); clear HB BKd BKa; have HB := n0_; have BKd := n1_; have BKa := n2_; clear n0_ n1_ n2_ hb; have x1_ := (show w1x.cell? ⟨gd, 1, none⟩ = some (.slice (some ⟨ga, 0, none⟩) n n) from (blk_cell BKd.out 1).trans rfl); clear x0)
    | (go_at_call 31; with_reducible refine (known.ok _ gd a _ n n bt al st ni (by (with_reducible repeat (first | refine blk_drewN ?_ _ | refine blk_drew ?_ | refine blk_alloc ?_ _)); exact BKd.out) i hn i0 i1).mono ?_; rintro e' w' ⟨rfl, rfl⟩)
    | ((with_reducible refine gate_dst (N := 20) rfl ?_); refine wpList_load_blk rfl (.tmp 19) rfl ga (i * 64) rfl (blkAt F i) LX.out (range_blk (by (with_reducible repeat (first | refine blk_drewN ?_ _ | refine blk_drew ?_ | refine blk_alloc ?_ _)); exact BKa.out) i LF.out HI.out) ?_)
    | (refine wpList_store_row rfl 29 (.tmp 4) (.tmp 20) rfl gx (bcells (blkAt F i)) rfl (by rfl) 29 (bcells zero64) (by (with_reducible repeat (first | refine blk_drewN ?_ _ | refine blk_drew ?_ | refine blk_alloc ?_ _)); exact BKx.out) (seal_size _ LX.out) (by rw [bcells_size, bcells_size, LX.out]; rfl) (bcells_all _) ?_; have n0 := Aside0.mk (below_setRow (show Below w.heap.size w _ from by repeat (first | (with_reducible first | exact HB.out | apply below_alloc | apply pw_below_drewN | apply below_drew1) | exact HB.out)) (show w.heap.size ≤ gx from Gx.out) (bcells (blkAt F i))); have n1 := Aside0.mk (setRow_heap _ _ _ (bcells (blkAt F i)) _ _ (by (with_reducible repeat (first | refine blk_drewN ?_ _ | refine blk_drew ?_ | refine blk_alloc ?_ _)); exact BKx.out)); generalize World.setRow _ _ _ = w3 at n0 n1; clear HB BKx; have HB := n0; have BKx := n1; clear n0 n1))
  refine bodyPost_ret (results_ct rfl _ _ gx 29 (bcells (blkAt F i)) (0, 0) _ rfl BKx.out Try.underlying29 rfl (seal_size _ LX.out)) rfl ?_
  exact ⟨rfl, HB.out⟩
end Go.Proofs.Ytlnfdhcpnbhkdaa.GA
