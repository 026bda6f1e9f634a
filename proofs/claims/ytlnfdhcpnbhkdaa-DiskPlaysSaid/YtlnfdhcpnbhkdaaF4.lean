/- Blocks in memory: loads, stores and copies of 64 bytes. No condition. -/
import Derived.Test.YtlnfdhcpnbhkdaaF3
import Derived.Laws.CopyOwn
import Derived.ChangeKeysEq
import Derived.Deep.RegionHeld3
import Derived.Deep.MidRow
import Derived.Great.Walk
import Derived.Deep.LoopGhost
import Derived.Deep.DeepCutAuto
namespace Go.Proofs.Ytlnfdhcpnbhkdaa.GA.F
open Go.RowKit Go.Proofs.YtlnfdhcpnbhkdaaW.PrintWords Go.Proofs.YtlnfdhcpnbhkdaaW.PrintLast Go.Proofs.YtlnfdhcpnbhkdaaW.PrintMore
set_option linter.unusedVariables false
set_option linter.unusedSimpArgs false

/-- what was asked for last of block j, of the first k writes; x, if nothing was -/
def lastTo (l : List (Int × List Int)) (j : Int) (x : List Int) : Nat → List Int
  | 0 => x
  | k + 1 => if (l.getD k (0, [])).1 = j then (l.getD k (0, [])).2 else lastTo l j x k

set_option maxHeartbeats 8000000 in
set_option maxRecDepth 100000 in
theorem Sure.bad (w : World) (B gr gH cH n : Nat) (lt : Value) (s : RS) (r : RRep B w gr gH cH n lt s) (i : Int) (hi : i < 0 ∨ (n : Int) ≤ i) : Calls Try.prog 42 #[.pointer (some ⟨gr, 0, none⟩), .int .i64 i] w fun e' w' => e' = .returned (.tuple #[.agg (bcells zero64), .int .i64 2]) ∧ Below w.heap.size w w' := by
  have HB := Aside0.mk (Below.refl w.heap.size w)
  have BKd := Aside0.mk r.d
  have BKa := Aside0.mk r.h
  have RR := Aside0.mk r
  have hn := r.n0
  clear r
  go_enter Try.func42, Try.ntmps42
  go_wp2_with (first
    | ((with_reducible refine gate_dst (N := 4) rfl ?_); refine box_event ?hg (N := 4) ?hd (cs := bcells zero64) (t := 29) ?hr ?_; (case hd => rfl); (case hg => rfl); (case hr => exact alloc29_run rfl _); intro gx hg w1x hbox hb; have Gx := Aside0.mk (show w.heap.size ≤ gx from by rw [hg]; exact below_size (by repeat (first | (with_reducible first | exact HB.out | apply below_alloc | apply pw_below_drewN | apply below_drew1) | exact HB.out))); have BKx := Aside0.mk hbox; clear hbox hg; have n0_ := Aside0.mk (below_step (by repeat (first | (with_reducible first | exact HB.out | apply below_alloc | apply pw_below_drewN | apply below_drew1) | exact HB.out)) hb); (first | have n1_ := Aside0.mk (blk_below BKd.out hb) | have n1_ := Aside0.mk (blk_below (blk_drewN BKd.out _) hb) | have n1_ := Aside0.mk (blk_below (blk_drew BKd.out) hb) | have n1_ := Aside0.mk (blk_below (blk_alloc BKd.out _) hb) | have n1_ := Aside0.mk (blk_below (by first | exact BKd.out | ((with_reducible repeat (first | refine blk_drewN ?_ _ | refine blk_drew ?_ | refine blk_alloc ?_ _)); exact BKd.out)) hb)); (first | have n2_ := Aside0.mk (blk_below BKa.out hb) | have n2_ := Aside0.mk (blk_below (blk_drewN BKa.out _) hb) | have n2_ := Aside0.mk (blk_below (blk_drew BKa.out) hb) | have n2_ := Aside0.mk (blk_below (blk_alloc BKa.out _) hb) | have n2_ := Aside0.mk (blk_below (by first | exact BKa.out | ((with_reducible repeat (first | refine blk_drewN ?_ _ | refine blk_drew ?_ | refine blk_alloc ?_ _)); exact BKa.out)) hb)); clear HB BKd BKa; have HB := n0_; have BKd := n1_; have BKa := n2_; clear n0_ n1_ n2_ hb; have x0 : w1x.cell? ⟨gr, 0, none⟩ = some (.slice (some ⟨gH, 0, none⟩) n cH) := (blk_cell BKd.out 0).trans rfl)
    | (refine wpList_store_row rfl 29 (.tmp 4) (.tmp 12) rfl gx (bcells zero64) rfl (by rfl) 29 (bcells zero64) (by first | exact BKx.out | ((with_reducible repeat (first | refine blk_drewN ?_ _ | refine blk_drew ?_ | refine blk_alloc ?_ _)); exact BKx.out)) (seal_size _ rfl) rfl (bcells_all _) ?_; have n0 := Aside0.mk (below_setRow (show Below w.heap.size w _ from by repeat (first | (with_reducible first | exact HB.out | apply below_alloc | apply pw_below_drewN | apply below_drew1) | exact HB.out)) (show w.heap.size ≤ gx from Gx.out) (bcells zero64)); have n1 := Aside0.mk (setRow_heap _ _ _ (bcells zero64) _ _ (by first | exact BKx.out | ((with_reducible repeat (first | refine blk_drewN ?_ _ | refine blk_drew ?_ | refine blk_alloc ?_ _)); exact BKx.out))); generalize World.setRow _ _ _ = w3 at n0 n1; clear HB BKx; have HB := n0; have BKx := n1; clear n0 n1)
    | (go_at_call 43; with_reducible refine (has.bad _ gr _ n cH lt s.al s.st s.ni (by first | exact BKd.out | ((with_reducible repeat (first | refine blk_drewN ?_ _ | refine blk_drew ?_ | refine blk_alloc ?_ _)); exact BKd.out)) i hi).mono ?_; rintro e' w' ⟨rfl, hw⟩; subst w'))
  refine bodyPost_ret (results_ct rfl _ _ gx 29 (bcells zero64) (0, 0) _ rfl BKx.out Try.underlying29 rfl (seal_size _ rfl)) rfl ?_
  exact ⟨rfl, HB.out⟩

set_option maxHeartbeats 8000000 in
set_option maxRecDepth 100000 in
theorem Read.night (w : World) (B gr gH cH n : Nat) (lt : Value) (s : RS) (r : RRep B w gr gH cH n lt s) (i : Int) (hni : s.ni = true) : Calls Try.prog 38 #[.pointer (some ⟨gr, 0, none⟩), .int .i64 i] w fun e' w' => e' = .returned (.tuple #[.agg (bcells zero64), .int .i64 9]) ∧ Below w.heap.size w w' := by
  have HB := Aside0.mk (Below.refl w.heap.size w)
  have BKd := Aside0.mk r.d
  have BKa := Aside0.mk r.h
  have RR := Aside0.mk r
  have hn := r.n0
  rw [hni] at BKd
  clear hni
  clear r
  go_enter Try.func38, Try.ntmps38
  go_wp2_with (first
    | ((with_reducible refine gate_dst (N := 4) rfl ?_); refine box_event ?hg (N := 4) ?hd (cs := bcells zero64) (t := 29) ?hr ?_; (case hd => rfl); (case hg => rfl); (case hr => exact alloc29_run rfl _); intro gx hg w1x hbox hb; have Gx := Aside0.mk (show w.heap.size ≤ gx from by rw [hg]; exact below_size (by repeat (first | (with_reducible first | exact HB.out | apply below_alloc | apply pw_below_drewN | apply below_drew1) | exact HB.out))); have BKx := Aside0.mk hbox; clear hbox hg; have n0_ := Aside0.mk (below_step (by repeat (first | (with_reducible first | exact HB.out | apply below_alloc | apply pw_below_drewN | apply below_drew1) | exact HB.out)) hb); (first | have n1_ := Aside0.mk (blk_below BKd.out hb) | have n1_ := Aside0.mk (blk_below (blk_drewN BKd.out _) hb) | have n1_ := Aside0.mk (blk_below (blk_drew BKd.out) hb) | have n1_ := Aside0.mk (blk_below (blk_alloc BKd.out _) hb) | have n1_ := Aside0.mk (blk_below (by first | exact BKd.out | ((with_reducible repeat (first | refine blk_drewN ?_ _ | refine blk_drew ?_ | refine blk_alloc ?_ _)); exact BKd.out)) hb)); (first | have n2_ := Aside0.mk (blk_below BKa.out hb) | have n2_ := Aside0.mk (blk_below (blk_drewN BKa.out _) hb) | have n2_ := Aside0.mk (blk_below (blk_drew BKa.out) hb) | have n2_ := Aside0.mk (blk_below (blk_alloc BKa.out _) hb) | have n2_ := Aside0.mk (blk_below (by first | exact BKa.out | ((with_reducible repeat (first | refine blk_drewN ?_ _ | refine blk_drew ?_ | refine blk_alloc ?_ _)); exact BKa.out)) hb)); clear HB BKd BKa; have HB := n0_; have BKd := n1_; have BKa := n2_; clear n0_ n1_ n2_ hb; have x4 : w1x.cell? ⟨gr, 4, none⟩ = some (.bool true) := (blk_cell BKd.out 4).trans rfl)
    | (refine wpList_store_row rfl 29 (.tmp 4) (.tmp 12) rfl gx (bcells zero64) rfl (by rfl) 29 (bcells zero64) (by first | exact BKx.out | ((with_reducible repeat (first | refine blk_drewN ?_ _ | refine blk_drew ?_ | refine blk_alloc ?_ _)); exact BKx.out)) (seal_size _ rfl) rfl (bcells_all _) ?_; have n0 := Aside0.mk (below_setRow (show Below w.heap.size w _ from by repeat (first | (with_reducible first | exact HB.out | apply below_alloc | apply pw_below_drewN | apply below_drew1) | exact HB.out)) (show w.heap.size ≤ gx from Gx.out) (bcells zero64)); have n1 := Aside0.mk (setRow_heap _ _ _ (bcells zero64) _ _ (by first | exact BKx.out | ((with_reducible repeat (first | refine blk_drewN ?_ _ | refine blk_drew ?_ | refine blk_alloc ?_ _)); exact BKx.out))); generalize World.setRow _ _ _ = w3 at n0 n1; clear HB BKx; have HB := n0; have BKx := n1; clear n0 n1))
  refine bodyPost_ret (results_ct rfl _ _ gx 29 (bcells zero64) (0, 0) _ rfl BKx.out Try.underlying29 rfl (seal_size _ rfl)) rfl ?_
  exact ⟨rfl, HB.out⟩

set_option maxHeartbeats 8000000 in
set_option maxRecDepth 100000 in
theorem Read.bad (w : World) (B gr gH cH n : Nat) (lt : Value) (s : RS) (r : RRep B w gr gH cH n lt s) (i : Int) (hni : s.ni = false) (hi : i < 0 ∨ (n : Int) ≤ i) : Calls Try.prog 38 #[.pointer (some ⟨gr, 0, none⟩), .int .i64 i] w fun e' w' => e' = .returned (.tuple #[.agg (bcells zero64), .int .i64 2]) ∧ Below w.heap.size w w' := by
  have HB := Aside0.mk (Below.refl w.heap.size w)
  have BKd := Aside0.mk r.d
  have BKa := Aside0.mk r.h
  have RR := Aside0.mk r
  have hn := r.n0
  rw [hni] at BKd
  clear hni
  clear r
  go_enter Try.func38, Try.ntmps38
  go_wp2_with (first
    | ((with_reducible refine gate_dst (N := 4) rfl ?_); refine box_event ?hg (N := 4) ?hd (cs := bcells zero64) (t := 29) ?hr ?_; (case hd => rfl); (case hg => rfl); (case hr => exact alloc29_run rfl _); intro gx hg w1x hbox hb; have Gx := Aside0.mk (show w.heap.size ≤ gx from by rw [hg]; exact below_size (by repeat (first | (with_reducible first | exact HB.out | apply below_alloc | apply pw_below_drewN | apply below_drew1) | exact HB.out))); have BKx := Aside0.mk hbox; clear hbox hg; have n0_ := Aside0.mk (below_step (by repeat (first | (with_reducible first | exact HB.out | apply below_alloc | apply pw_below_drewN | apply below_drew1) | exact HB.out)) hb); (first | have n1_ := Aside0.mk (blk_below BKd.out hb) | have n1_ := Aside0.mk (blk_below (blk_drewN BKd.out _) hb) | have n1_ := Aside0.mk (blk_below (blk_drew BKd.out) hb) | have n1_ := Aside0.mk (blk_below (blk_alloc BKd.out _) hb) | have n1_ := Aside0.mk (blk_below (by first | exact BKd.out | ((with_reducible repeat (first | refine blk_drewN ?_ _ | refine blk_drew ?_ | refine blk_alloc ?_ _)); exact BKd.out)) hb)); (first | have n2_ := Aside0.mk (blk_below BKa.out hb) | have n2_ := Aside0.mk (blk_below (blk_drewN BKa.out _) hb) | have n2_ := Aside0.mk (blk_below (blk_drew BKa.out) hb) | have n2_ := Aside0.mk (blk_below (blk_alloc BKa.out _) hb) | have n2_ := Aside0.mk (blk_below (by first | exact BKa.out | ((with_reducible repeat (first | refine blk_drewN ?_ _ | refine blk_drew ?_ | refine blk_alloc ?_ _)); exact BKa.out)) hb)); clear HB BKd BKa; have HB := n0_; have BKd := n1_; have BKa := n2_; clear n0_ n1_ n2_ hb; have x4 : w1x.cell? ⟨gr, 4, none⟩ = some (.bool false) := (blk_cell BKd.out 4).trans rfl)
    | (refine wpList_store_row rfl 29 (.tmp 4) (.tmp 18) rfl gx (bcells zero64) rfl (by rfl) 29 (bcells zero64) (by first | exact BKx.out | ((with_reducible repeat (first | refine blk_drewN ?_ _ | refine blk_drew ?_ | refine blk_alloc ?_ _)); exact BKx.out)) (seal_size _ rfl) rfl (bcells_all _) ?_; have n0 := Aside0.mk (below_setRow (show Below w.heap.size w _ from by repeat (first | (with_reducible first | exact HB.out | apply below_alloc | apply pw_below_drewN | apply below_drew1) | exact HB.out)) (show w.heap.size ≤ gx from Gx.out) (bcells zero64)); have n1 := Aside0.mk (setRow_heap _ _ _ (bcells zero64) _ _ (by first | exact BKx.out | ((with_reducible repeat (first | refine blk_drewN ?_ _ | refine blk_drew ?_ | refine blk_alloc ?_ _)); exact BKx.out))); generalize World.setRow _ _ _ = w3 at n0 n1; clear HB BKx; have HB := n0; have BKx := n1; clear n0 n1)
    | (go_at_call 43; with_reducible refine (has.bad _ gr _ n cH lt s.al s.st false (by first | exact BKd.out | ((with_reducible repeat (first | refine blk_drewN ?_ _ | refine blk_drew ?_ | refine blk_alloc ?_ _)); exact BKd.out)) i hi).mono ?_; rintro e' w' ⟨rfl, hw⟩; subst w'))
  refine bodyPost_ret (results_ct rfl _ _ gx 29 (bcells zero64) (0, 0) _ rfl BKx.out Try.underlying29 rfl (seal_size _ rfl)) rfl ?_
  exact ⟨rfl, HB.out⟩

set_option maxHeartbeats 8000000 in
set_option maxRecDepth 100000 in
theorem Sure.ok (w : World) (B gr gH cH n : Nat) (lt : Value) (s : RS) (r : RRep B w gr gH cH n lt s) (i : Nat) (hi : i < n) : Calls Try.prog 42 #[.pointer (some ⟨gr, 0, none⟩), .int .i64 (i : Int)] w fun e' w' => e' = .returned (.tuple #[.agg (bcells (blkAt s.held i)), .int .i64 0]) ∧ Below w.heap.size w w' := by
  have HB := Aside0.mk (Below.refl w.heap.size w)
  have BKd := Aside0.mk r.d
  have BKa := Aside0.mk r.h
  have RR := Aside0.mk r
  have hn := r.n0
  have LX := Aside0.mk (E.blkAt_len s.held i n r.lh hi)
  have HI := Aside0.mk hi
  have i0 : (0 : Int) ≤ (i : Int) := Int.natCast_nonneg i
  have i1 : (i : Int) < (n : Int) := by omega
  clear hi
  clear r
  go_enter Try.func42, Try.ntmps42
  go_wp2_with (first
    | ((with_reducible refine gate_dst (N := 4) rfl ?_); refine box_event ?hg (N := 4) ?hd (cs := bcells zero64) (t := 29) ?hr ?_; (case hd => rfl); (case hg => rfl); (case hr => exact alloc29_run rfl _); intro gx hg w1x hbox hb; have Gx := Aside0.mk (show w.heap.size ≤ gx from by rw [hg]; exact below_size (by repeat (first | (with_reducible first | exact HB.out | apply below_alloc | apply pw_below_drewN | apply below_drew1) | exact HB.out))); have BKx := Aside0.mk hbox; clear hbox hg; have n0_ := Aside0.mk (below_step (by repeat (first | (with_reducible first | exact HB.out | apply below_alloc | apply pw_below_drewN | apply below_drew1) | exact HB.out)) hb); (first | have n1_ := Aside0.mk (blk_below BKd.out hb) | have n1_ := Aside0.mk (blk_below (blk_drewN BKd.out _) hb) | have n1_ := Aside0.mk (blk_below (blk_drew BKd.out) hb) | have n1_ := Aside0.mk (blk_below (blk_alloc BKd.out _) hb) | have n1_ := Aside0.mk (blk_below (by first | exact BKd.out | ((with_reducible repeat (first | refine blk_drewN ?_ _ | refine blk_drew ?_ | refine blk_alloc ?_ _)); exact BKd.out)) hb)); (first | have n2_ := Aside0.mk (blk_below BKa.out hb) | have n2_ := Aside0.mk (blk_below (blk_drewN BKa.out _) hb) | have n2_ := Aside0.mk (blk_below (blk_drew BKa.out) hb) | have n2_ := Aside0.mk (blk_below (blk_alloc BKa.out _) hb) | have n2_ := Aside0.mk (blk_below (by first | exact BKa.out | ((with_reducible repeat (first | refine blk_drewN ?_ _ | refine blk_drew ?_ | refine blk_alloc ?_ _)); exact BKa.out)) hb)); clear HB BKd BKa; have HB := n0_; have BKd := n1_; have BKa := n2_; clear n0_ n1_ n2_ hb; have x0 : w1x.cell? ⟨gr, 0, none⟩ = some (.slice (some ⟨gH, 0, none⟩) n cH) := (blk_cell BKd.out 0).trans rfl)
    | (go_at_call 43; with_reducible refine (has.ok _ gr _ n cH lt s.al s.st s.ni (by first | exact BKd.out | ((with_reducible repeat (first | refine blk_drewN ?_ _ | refine blk_drew ?_ | refine blk_alloc ?_ _)); exact BKd.out)) (i : Int) i0 i1).mono ?_; rintro e' w' ⟨rfl, hw⟩; subst w')
    | ((with_reducible refine gate_dst (N := 20) rfl ?_); refine wpList_load_blk rfl (.tmp 19) rfl gH (i * 64) rfl (blkAt s.held i) LX.out (E.range_blk (by first | exact BKa.out | ((with_reducible repeat (first | refine blk_drewN ?_ _ | refine blk_drew ?_ | refine blk_alloc ?_ _)); exact BKa.out)) i RR.out.lh HI.out) ?_)
    | (refine wpList_store_row rfl 29 (.tmp 4) (.tmp 20) rfl gx (bcells (blkAt s.held i)) rfl (by rfl) 29 (bcells zero64) (by first | exact BKx.out | ((with_reducible repeat (first | refine blk_drewN ?_ _ | refine blk_drew ?_ | refine blk_alloc ?_ _)); exact BKx.out)) (seal_size _ LX.out) (by rw [bcells_size, bcells_size, LX.out]; rfl) (bcells_all _) ?_; have n0 := Aside0.mk (below_setRow (show Below w.heap.size w _ from by repeat (first | (with_reducible first | exact HB.out | apply below_alloc | apply pw_below_drewN | apply below_drew1) | exact HB.out)) (show w.heap.size ≤ gx from Gx.out) (bcells (blkAt s.held i))); have n1 := Aside0.mk (setRow_heap _ _ _ (bcells (blkAt s.held i)) _ _ (by first | exact BKx.out | ((with_reducible repeat (first | refine blk_drewN ?_ _ | refine blk_drew ?_ | refine blk_alloc ?_ _)); exact BKx.out))); generalize World.setRow _ _ _ = w3 at n0 n1; clear HB BKx; have HB := n0; have BKx := n1; clear n0 n1))
  refine bodyPost_ret (results_ct rfl _ _ gx 29 (bcells (blkAt s.held i)) (0, 0) _ rfl BKx.out Try.underlying29 rfl (seal_size _ LX.out)) rfl ?_
  exact ⟨rfl, HB.out⟩

set_option maxHeartbeats 8000000 in
set_option maxRecDepth 100000 in
theorem Read.ok (w : World) (B gr gH cH n : Nat) (lt : Value) (s : RS) (r : RRep B w gr gH cH n lt s) (hni : s.ni = false) (hlb : s.list.length ≤ 4611686018427387904) (i : Nat) (hi : i < n) : Calls Try.prog 38 #[.pointer (some ⟨gr, 0, none⟩), .int .i64 (i : Int)] w fun e' w' => e' = .returned (.tuple #[.agg (bcells (lastTo s.list (i : Int) (blkAt s.held i) s.list.length)), .int .i64 0]) ∧ Below w.heap.size w w' := by
  have HB := Aside0.mk (Below.refl w.heap.size w)
  have BKd := Aside0.mk r.d
  have BKa := Aside0.mk r.h
  have RR := Aside0.mk r
  have hn := r.n0
  have LX := Aside0.mk (E.blkAt_len s.held i n r.lh hi)
  have HI := Aside0.mk hi
  have i0 : (0 : Int) ≤ (i : Int) := Int.natCast_nonneg i
  have i1 : (i : Int) < (n : Int) := by omega
  clear hi
  have HLB := Aside0.mk hlb
  obtain ⟨Aq, cq, eq⟩ := Kd.R_slice r.l
  subst eq
  rw [hni] at BKd
  have NIS := Aside0.mk hni
  clear r hni hlb
  go_enter Try.func38, Try.ntmps38
  go_upto_region 6 with (first
    | ((with_reducible refine gate_dst (N := 4) rfl ?_); refine box_event ?hg (N := 4) ?hd (cs := bcells zero64) (t := 29) ?hr ?_; (case hd => rfl); (case hg => rfl); (case hr => exact alloc29_run rfl _); intro gx hg w1x hbox hb; have Gx := Aside0.mk (show w.heap.size ≤ gx from by rw [hg]; exact below_size (by repeat (first | (with_reducible first | exact HB.out | apply below_alloc | apply pw_below_drewN | apply below_drew1) | exact HB.out))); have BKx := Aside0.mk hbox; clear hbox hg; have n0_ := Aside0.mk (below_step (by repeat (first | (with_reducible first | exact HB.out | apply below_alloc | apply pw_below_drewN | apply below_drew1) | exact HB.out)) hb); (first | have n1_ := Aside0.mk (blk_below BKd.out hb) | have n1_ := Aside0.mk (blk_below (blk_drewN BKd.out _) hb) | have n1_ := Aside0.mk (blk_below (blk_drew BKd.out) hb) | have n1_ := Aside0.mk (blk_below (blk_alloc BKd.out _) hb) | have n1_ := Aside0.mk (blk_below (by first | exact BKd.out | ((with_reducible repeat (first | refine blk_drewN ?_ _ | refine blk_drew ?_ | refine blk_alloc ?_ _)); exact BKd.out)) hb)); (first | have n2_ := Aside0.mk (blk_below BKa.out hb) | have n2_ := Aside0.mk (blk_below (blk_drewN BKa.out _) hb) | have n2_ := Aside0.mk (blk_below (blk_drew BKa.out) hb) | have n2_ := Aside0.mk (blk_below (blk_alloc BKa.out _) hb) | have n2_ := Aside0.mk (blk_below (by first | exact BKa.out | ((with_reducible repeat (first | refine blk_drewN ?_ _ | refine blk_drew ?_ | refine blk_alloc ?_ _)); exact BKa.out)) hb)); clear HB BKd BKa; have HB := n0_; have BKd := n1_; have BKa := n2_; clear n0_ n1_ n2_ hb; have x0 : w1x.cell? ⟨gr, 0, none⟩ = some (.slice (some ⟨gH, 0, none⟩) n cH) := (blk_cell BKd.out 0).trans rfl; have x1 : w1x.cell? ⟨gr, 1, none⟩ = some (.slice Aq s.list.length cq) := (blk_cell BKd.out 1).trans rfl; have x4 : w1x.cell? ⟨gr, 4, none⟩ = some (.bool false) := (blk_cell BKd.out 4).trans rfl)
    | (go_at_call 43; with_reducible refine (has.ok _ gr _ n cH lt s.al s.st false (by first | exact BKd.out | ((with_reducible repeat (first | refine blk_drewN ?_ _ | refine blk_drew ?_ | refine blk_alloc ?_ _)); exact BKd.out)) (i : Int) i0 i1).mono ?_; rintro e' w' ⟨rfl, hw⟩; subst w'))
  have w0 : wrap64 ((s.list.length : Int) - 1) = (s.list.length : Int) - 1 := wrap_ok (by omega) (by have := HLB.out; omega)
  go_wp2
  have RX := Aside0.mk (RR.out.below (show Below w.heap.size w w1x from HB.out))
  go_loopw [7] (fun v7 w' => ∃ k : Nat, k ≤ s.list.length ∧ v7 = .int .i64 ((k : Int) - 1) ∧ Aside0 ((lastTo s.list (i : Int) (blkAt s.held i) s.list.length) = lastTo s.list (i : Int) (blkAt s.held i) k) ∧ w' = w1x) (fun v7 _ => (intOf v7 + 1).toNat)
  case atStart => exact ⟨s.list.length, Nat.le_refl _, by first | rfl | rw [w0], ⟨rfl⟩, rfl⟩
  case round =>
    obtain ⟨k, hk, rfl, HE, rfl⟩ := hrel
    by_cases hk0 : k = 0
    · subst hk0
      have d1 : decide (((0 : Nat) : Int) - 1 ≥ 0) = false := decide_eq_false (by omega)
      have HE2 : Aside0 ((lastTo s.list (i : Int) (blkAt s.held i) s.list.length) = blkAt s.held i) := ⟨HE.out⟩
      go_wp2_with (first
        | ((with_reducible refine gate_dst (N := 54) rfl ?_); refine wpList_load_blk rfl (.tmp 53) rfl gH (i * 64) rfl (blkAt s.held i) LX.out (E.range_blk (by first | exact BKa.out | ((with_reducible repeat (first | refine blk_drewN ?_ _ | refine blk_drew ?_ | refine blk_alloc ?_ _)); exact BKa.out)) i RR.out.lh HI.out) ?_)
        | (refine wpList_store_row rfl 29 (.tmp 4) (.tmp 54) rfl gx (bcells (blkAt s.held i)) rfl (by rfl) 29 (bcells zero64) (by first | exact BKx.out | ((with_reducible repeat (first | refine blk_drewN ?_ _ | refine blk_drew ?_ | refine blk_alloc ?_ _)); exact BKx.out)) (seal_size _ LX.out) (by rw [bcells_size, bcells_size, LX.out]; rfl) (bcells_all _) ?_; have n0 := Aside0.mk (below_setRow (show Below w.heap.size w _ from by repeat (first | (with_reducible first | exact HB.out | apply below_alloc | apply pw_below_drewN | apply below_drew1) | exact HB.out)) (show w.heap.size ≤ gx from Gx.out) (bcells (blkAt s.held i))); have n1 := Aside0.mk (setRow_heap _ _ _ (bcells (blkAt s.held i)) _ _ (by first | exact BKx.out | ((with_reducible repeat (first | refine blk_drewN ?_ _ | refine blk_drew ?_ | refine blk_alloc ?_ _)); exact BKx.out))); generalize World.setRow _ _ _ = w3 at n0 n1; clear HB BKx; have HB := n0; have BKx := n1; clear n0 n1))
      refine bodyPost_ret (results_ct rfl _ _ gx 29 (bcells (blkAt s.held i)) (0, 0) _ rfl BKx.out Try.underlying29 rfl (seal_size _ LX.out)) rfl ?_
      exact ⟨by rw [HE2.out]; rfl, HB.out⟩
    · obtain ⟨m, rfl⟩ : ∃ m, k = m + 1 := ⟨k - 1, by omega⟩
      have em : (((m + 1 : Nat) : Int) - 1) = (m : Int) := by omega
      rw [em]
      have hm : m < s.list.length := by omega
      have m0 : (0 : Int) ≤ (m : Int) := Int.natCast_nonneg m
      have m1 : (m : Int) < (s.list.length : Int) := by omega
      have d1 : decide ((m : Int) ≥ 0) = true := decide_eq_true m0
      obtain ⟨x, hx⟩ : ∃ x, s.list[m]? = some x := ⟨_, List.getElem?_eq_getElem hm⟩
      obtain ⟨gq, c', eA, hb64, hrg, cur, hcur⟩ := AskR.at RX.out.l m x hx
      injection eA with eA _ ec
      subst eA
      subst ec
      obtain ⟨xi, xb⟩ := x
      have q0 : wr.cell? ⟨gq, m * 65, none⟩ = some (.int .i64 xi) := hrg 0 _ rfl
      have LB := Aside0.mk (show xb.length = 64 from hb64)
      have RG : Aside0 (wr.rangeAt gq (m * 65 + 1) (encs (Value.int .u8) xb)) := ⟨fun j v hv => by rw [Nat.add_assoc, Nat.add_comm 1 j]; exact hrg (j + 1) v hv⟩
      have HG : Aside0 (s.list.getD m (0, []) = (xi, xb)) := ⟨by rw [List.getD_eq_getElem?_getD, hx]; rfl⟩
      clear hx hb64 hrg hcur cur em
      by_cases he : xi = (i : Int)
      · have f1 : (xi == (i : Int)) = true := beq_iff_eq.2 he
        have HE2 : Aside0 ((lastTo s.list (i : Int) (blkAt s.held i) s.list.length) = xb) := ⟨by rw [HE.out, lastTo, HG.out, if_pos he]⟩
        clear he
        go_wp2_with (first
          | ((with_reducible refine gate_dst (N := 47) rfl ?_); refine wpList_load_blk rfl (.tmp 46) rfl gq (m * 65 + 1) rfl xb LB.out (RG.out) ?_)
          | (refine wpList_store_row rfl 29 (.tmp 4) (.tmp 47) rfl gx (bcells xb) rfl (by rfl) 29 (bcells zero64) (by first | exact BKx.out | ((with_reducible repeat (first | refine blk_drewN ?_ _ | refine blk_drew ?_ | refine blk_alloc ?_ _)); exact BKx.out)) (seal_size _ LB.out) (by rw [bcells_size, bcells_size, LB.out]; rfl) (bcells_all _) ?_; have n0 := Aside0.mk (below_setRow (show Below w.heap.size w _ from by repeat (first | (with_reducible first | exact HB.out | apply below_alloc | apply pw_below_drewN | apply below_drew1) | exact HB.out)) (show w.heap.size ≤ gx from Gx.out) (bcells xb)); have n1 := Aside0.mk (setRow_heap _ _ _ (bcells xb) _ _ (by first | exact BKx.out | ((with_reducible repeat (first | refine blk_drewN ?_ _ | refine blk_drew ?_ | refine blk_alloc ?_ _)); exact BKx.out))); generalize World.setRow _ _ _ = w3 at n0 n1; clear HB BKx; have HB := n0; have BKx := n1; clear n0 n1))
        refine bodyPost_ret (results_ct rfl _ _ gx 29 (bcells xb) (0, 0) _ rfl BKx.out Try.underlying29 rfl (seal_size _ LB.out)) rfl ?_
        exact ⟨by rw [HE2.out]; rfl, HB.out⟩
      · have f1 : (xi == (i : Int)) = false := beq_false_of_ne he
        have HE2 : Aside0 ((lastTo s.list (i : Int) (blkAt s.held i) s.list.length) = lastTo s.list (i : Int) (blkAt s.held i) m) := ⟨by rw [HE.out, lastTo, HG.out, if_neg he]⟩
        have w2 : wrap64 ((m : Int) - 1) = (m : Int) - 1 := wrap_ok (by omega) (by have := HLB.out; omega)
        clear he
        go_wp2
        exact ⟨⟨m, by omega, by first | rfl | rw [w2], HE2, by first | rfl | trivial⟩, by (try rw [w2]); show ((m : Int) - 1 + 1).toNat < ((m : Int) + 1).toNat; omega⟩

end Go.Proofs.Ytlnfdhcpnbhkdaa.GA.F
