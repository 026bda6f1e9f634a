/- Blocks in memory: loads, stores and copies of 64 bytes. Blocks in memory: loads, stores and copies of 64 bytes. Blocks in memory: loads, stores and copies of 64 bytes. Blocks in memory: loads, stores and copies of 64 bytes. Blocks in memory: loads, stores and copies of 64 bytes. Blocks in memory: loads, stores and copies of 64 bytes. Blocks in memory: loads, stores and copies of 64 bytes. No condition. -/
import Derived.Test.YtlnfdhcpnbhkdaaF12
import Derived.Laws.CopyOwn
import Derived.ChangeKeysEq
import Derived.Deep.RegionHeld3
import Derived.Deep.MidRow
import Derived.Great.Walk
import Derived.Deep.LoopGhost
import Derived.Deep.DeepCutAuto
import Derived.Test.YtlnfdhcpnbhkdaaD11
namespace Go.Proofs.Ytlnfdhcpnbhkdaa.GA.F
section
open Go.RowKit Go.Proofs.YtlnfdhcpnbhkdaaW.PrintWords Go.Proofs.YtlnfdhcpnbhkdaaW.PrintLast Go.Proofs.YtlnfdhcpnbhkdaaW.PrintMore
set_option linter.unusedVariables false
set_option linter.unusedSimpArgs false

set_option maxHeartbeats 8000000 in
set_option maxRecDepth 100000 in
theorem should0 (w : World) (B gr gH cH n : Nat) (lt : Value) (s : RS) (r : RRep B w gr gH cH n lt s) (hst : s.st < 4611686018427387904) (hl : s.list.length ≤ 1000) (i : Int) (hi : i < 9223372036854775808) (b : List Int) (pk : Value) (hb : b.length = 64) :
    Calls Try.prog 35 #[.pointer (some ⟨gr, 0, none⟩), .agg (actC 0 i b (pk))] w fun e' w' => e' = .returned (.tuple #[.agg (bcells zero64), .int .i64 (rW n s i b).2]) ∧ OpR w B gr gH cH n lt (rW n s i b).1 w' := by
  have HB := Aside0.mk (Below.refl w.heap.size w)
  have SZ := Aside0.mk r.size
  have HST := Aside0.mk hst
  have HL : Aside0 ((s.list.length + 1) * 72 ≤ 140737488355328) := ⟨by omega⟩
  have HLF : Aside0 (s.list.length ≤ 1000000) := ⟨by omega⟩
  have HLF2 : Aside0 (s.list.length ≤ 4611686018427387904) := ⟨by omega⟩
  have HI := Aside0.mk hi
  have LB := Aside0.mk hb
  have NXF : Aside0 (∀ g, w.heap.size ≤ g → g ≠ gH) := ⟨fun g hg e => by have := blk_lt r.h; omega⟩
  have RR := Aside0.mk r
  clear r hst hl hi hb
  go_enter Try.func35, Try.ntmps35
  go_wp2_with (first
    | ((with_reducible refine gate_dst (N := 3) rfl ?_); refine box_event ?hg (N := 3) ?hd (cs := actC 0 i b (pk)) (t := 53) ?hr ?_; (case hd => rfl); (case hg => rfl); (case hr => exact boxagg_run rfl rfl _); intro gq hg w1q hbox hb; have Gq := Aside0.mk (show w.heap.size ≤ gq from by rw [hg]; exact below_size (by repeat (first | (with_reducible first | exact HB.out | apply below_alloc | apply pw_below_drewN | apply below_drew1) | exact HB.out))); have BKq := Aside0.mk hbox; clear hbox hg; have n0_ := Aside0.mk (below_step (by repeat (first | (with_reducible first | exact HB.out | apply below_alloc | apply pw_below_drewN | apply below_drew1) | exact HB.out)) hb); clear HB; have HB := n0_; clear n0_ hb; have p0 : w1q.cell? ⟨gq, 0, none⟩ = some (.int .i64 0) := (blk_cell BKq.out 0).trans (actC_0 _ _ _ _); have p1 : w1q.cell? ⟨gq, 1, none⟩ = some (.int .i64 i) := (blk_cell BKq.out 1).trans (actC_1 _ _ _ _); have p66 : w1q.cell? ⟨gq, 66, none⟩ = some (pk) := (blk_cell BKq.out 66).trans (actC_66 _ _ _ _ LB.out))
    | ((with_reducible refine gate_dst (N := 4) rfl ?_); refine box_event ?hg (N := 4) ?hd (cs := bcells zero64) (t := 29) ?hr ?_; (case hd => rfl); (case hg => rfl); (case hr => exact alloc29_run rfl _); intro gx hg w1x hbox hb; have Gx := Aside0.mk (show w.heap.size ≤ gx from by rw [hg]; exact below_size (by repeat (first | (with_reducible first | exact HB.out | apply below_alloc | apply pw_below_drewN | apply below_drew1) | exact HB.out))); have BKx := Aside0.mk hbox; clear hbox hg; have n0_ := Aside0.mk (below_step (by repeat (first | (with_reducible first | exact HB.out | apply below_alloc | apply pw_below_drewN | apply below_drew1) | exact HB.out)) hb); (first | have n1_ := Aside0.mk (blk_below BKq.out hb) | have n1_ := Aside0.mk (blk_below (blk_drewN BKq.out _) hb) | have n1_ := Aside0.mk (blk_below (blk_drew BKq.out) hb) | have n1_ := Aside0.mk (blk_below (blk_alloc BKq.out _) hb) | have n1_ := Aside0.mk (blk_below (by first | exact BKq.out | ((with_reducible repeat (first | refine blk_drewN ?_ _ | refine blk_drew ?_ | refine blk_alloc ?_ _)); exact BKq.out)) hb)); clear HB BKq; have HB := n0_; have BKq := n1_; clear n0_ n1_ hb; have p0 : w1x.cell? ⟨gq, 0, none⟩ = some (.int .i64 0) := (blk_cell BKq.out 0).trans (actC_0 _ _ _ _); have p1 : w1x.cell? ⟨gq, 1, none⟩ = some (.int .i64 i) := (blk_cell BKq.out 1).trans (actC_1 _ _ _ _); have p66 : w1x.cell? ⟨gq, 66, none⟩ = some (pk) := (blk_cell BKq.out 66).trans (actC_66 _ _ _ _ LB.out); have NX := Aside0.mk (NXF.out gx Gx.out); have BG := Aside0.mk (Nat.le_trans SZ.out Gx.out))
    | ((with_reducible refine gate_dst (N := 15) rfl ?_); refine wpList_load_blk rfl (.tmp 14) rfl gq (2) rfl b LB.out (actC_range (by first | exact BKq.out | ((with_reducible repeat (first | refine blk_drewN ?_ _ | refine blk_drew ?_ | refine blk_alloc ?_ _)); exact BKq.out))) ?_)
    | (go_at_call 37; with_reducible refine (WriteR _ B gr gH cH n lt s (RR.out.below HB.out) HST.out HL.out i b LB.out).mono ?_; rintro e' w3 ⟨rfl, hop⟩; have OP0 := Aside0.mk (hop.first HB.out SZ.out); have k3 := Aside0.mk (hop.keep (RR.out.below HB.out) BKx.out NX.out); clear hop BKx; have BKx := k3; clear k3)
    | (refine wpList_store_row rfl 29 (.tmp 4) (.tmp 10) rfl gx (bcells zero64) rfl (by rfl) 29 (bcells zero64) BKx.out (seal_size _ rfl) rfl (bcells_all _) ?_; have n0 := Aside0.mk (OP0.out.put (X := bcells zero64) BKx.out NX.out Gx.out BG.out); have n1 := Aside0.mk (setRow_heap _ _ _ (bcells zero64) _ _ BKx.out); generalize World.setRow _ _ _ = w4 at n0 n1; clear OP0 BKx; have OP0 := n0; have BKx := n1; clear n0 n1))
  refine bodyPost_ret (results_ct rfl _ _ gx 29 (bcells zero64) (0, 0) _ rfl BKx.out Try.underlying29 rfl (seal_size _ rfl)) rfl ?_
  exact ⟨rfl, OP0.out⟩

set_option maxHeartbeats 8000000 in
set_option maxRecDepth 100000 in
theorem should1 (w : World) (B gr gH cH n : Nat) (lt : Value) (s : RS) (r : RRep B w gr gH cH n lt s) (hst : s.st < 4611686018427387904) (hl : s.list.length ≤ 1000) (i : Int) (hi : i < 9223372036854775808) (b : List Int) (pk : Value) (hb : b.length = 64) :
    Calls Try.prog 35 #[.pointer (some ⟨gr, 0, none⟩), .agg (actC 1 i b (pk))] w fun e' w' => e' = .returned (.tuple #[.agg (bcells (rRd n s i).1), .int .i64 (rRd n s i).2]) ∧ OpR w B gr gH cH n lt s w' := by
  have HB := Aside0.mk (Below.refl w.heap.size w)
  have SZ := Aside0.mk r.size
  have HST := Aside0.mk hst
  have HL : Aside0 ((s.list.length + 1) * 72 ≤ 140737488355328) := ⟨by omega⟩
  have HLF : Aside0 (s.list.length ≤ 1000000) := ⟨by omega⟩
  have HLF2 : Aside0 (s.list.length ≤ 4611686018427387904) := ⟨by omega⟩
  have HI := Aside0.mk hi
  have LB := Aside0.mk hb
  have NXF : Aside0 (∀ g, w.heap.size ≤ g → g ≠ gH) := ⟨fun g hg e => by have := blk_lt r.h; omega⟩
  have LX := Aside0.mk (rRd_len r.lh r.ok i)
  have RR := Aside0.mk r
  clear r hst hl hi hb
  go_enter Try.func35, Try.ntmps35
  go_wp2_with (first
    | ((with_reducible refine gate_dst (N := 3) rfl ?_); refine box_event ?hg (N := 3) ?hd (cs := actC 1 i b (pk)) (t := 53) ?hr ?_; (case hd => rfl); (case hg => rfl); (case hr => exact boxagg_run rfl rfl _); intro gq hg w1q hbox hb; have Gq := Aside0.mk (show w.heap.size ≤ gq from by rw [hg]; exact below_size (by repeat (first | (with_reducible first | exact HB.out | apply below_alloc | apply pw_below_drewN | apply below_drew1) | exact HB.out))); have BKq := Aside0.mk hbox; clear hbox hg; have n0_ := Aside0.mk (below_step (by repeat (first | (with_reducible first | exact HB.out | apply below_alloc | apply pw_below_drewN | apply below_drew1) | exact HB.out)) hb); clear HB; have HB := n0_; clear n0_ hb; have p0 : w1q.cell? ⟨gq, 0, none⟩ = some (.int .i64 1) := (blk_cell BKq.out 0).trans (actC_0 _ _ _ _); have p1 : w1q.cell? ⟨gq, 1, none⟩ = some (.int .i64 i) := (blk_cell BKq.out 1).trans (actC_1 _ _ _ _); have p66 : w1q.cell? ⟨gq, 66, none⟩ = some (pk) := (blk_cell BKq.out 66).trans (actC_66 _ _ _ _ LB.out))
    | ((with_reducible refine gate_dst (N := 4) rfl ?_); refine box_event ?hg (N := 4) ?hd (cs := bcells zero64) (t := 29) ?hr ?_; (case hd => rfl); (case hg => rfl); (case hr => exact alloc29_run rfl _); intro gx hg w1x hbox hb; have Gx := Aside0.mk (show w.heap.size ≤ gx from by rw [hg]; exact below_size (by repeat (first | (with_reducible first | exact HB.out | apply below_alloc | apply pw_below_drewN | apply below_drew1) | exact HB.out))); have BKx := Aside0.mk hbox; clear hbox hg; have n0_ := Aside0.mk (below_step (by repeat (first | (with_reducible first | exact HB.out | apply below_alloc | apply pw_below_drewN | apply below_drew1) | exact HB.out)) hb); (first | have n1_ := Aside0.mk (blk_below BKq.out hb) | have n1_ := Aside0.mk (blk_below (blk_drewN BKq.out _) hb) | have n1_ := Aside0.mk (blk_below (blk_drew BKq.out) hb) | have n1_ := Aside0.mk (blk_below (blk_alloc BKq.out _) hb) | have n1_ := Aside0.mk (blk_below (by first | exact BKq.out | ((with_reducible repeat (first | refine blk_drewN ?_ _ | refine blk_drew ?_ | refine blk_alloc ?_ _)); exact BKq.out)) hb)); clear HB BKq; have HB := n0_; have BKq := n1_; clear n0_ n1_ hb; have p0 : w1x.cell? ⟨gq, 0, none⟩ = some (.int .i64 1) := (blk_cell BKq.out 0).trans (actC_0 _ _ _ _); have p1 : w1x.cell? ⟨gq, 1, none⟩ = some (.int .i64 i) := (blk_cell BKq.out 1).trans (actC_1 _ _ _ _); have p66 : w1x.cell? ⟨gq, 66, none⟩ = some (pk) := (blk_cell BKq.out 66).trans (actC_66 _ _ _ _ LB.out); have NX := Aside0.mk (NXF.out gx Gx.out); have BG := Aside0.mk (Nat.le_trans SZ.out Gx.out))
    | (go_at_call 38; with_reducible refine (ReadR _ B gr gH cH n lt s (RR.out.below HB.out) HLF2.out i).mono ?_; rintro e' w3 ⟨rfl, hb⟩; have OP0 := Aside0.mk ((OpR.same (RR.out.below HB.out) hb).first HB.out SZ.out); have k3 := Aside0.mk (blk_below BKx.out hb); clear hb BKx; have BKx := k3; clear k3)
    | (refine wpList_store_row rfl 29 (.tmp 4) (.tmp 23) rfl gx (bcells (rRd n s i).1) rfl (by rfl) 29 (bcells zero64) BKx.out (seal_size _ LX.out) (by rw [bcells_size, bcells_size, LX.out]; rfl) (bcells_all _) ?_; have n0 := Aside0.mk (OP0.out.put (X := bcells (rRd n s i).1) BKx.out NX.out Gx.out BG.out); have n1 := Aside0.mk (setRow_heap _ _ _ (bcells (rRd n s i).1) _ _ BKx.out); generalize World.setRow _ _ _ = w4 at n0 n1; clear OP0 BKx; have OP0 := n0; have BKx := n1; clear n0 n1))
  refine bodyPost_ret (results_ct rfl _ _ gx 29 (bcells (rRd n s i).1) (0, 0) _ rfl BKx.out Try.underlying29 rfl (seal_size _ LX.out)) rfl ?_
  exact ⟨rfl, OP0.out⟩

set_option maxHeartbeats 8000000 in
set_option maxRecDepth 100000 in
theorem should2 (w : World) (B gr gH cH n : Nat) (lt : Value) (s : RS) (r : RRep B w gr gH cH n lt s) (hst : s.st < 4611686018427387904) (hl : s.list.length ≤ 1000) (i : Int) (hi : i < 9223372036854775808) (b : List Int) (pk : Value) (hb : b.length = 64) :
    Calls Try.prog 35 #[.pointer (some ⟨gr, 0, none⟩), .agg (actC 2 i b (pk))] w fun e' w' => e' = .returned (.tuple #[.agg (bcells zero64), .int .i64 (rF s).2]) ∧ OpR w B gr gH cH n lt (rF s).1 w' := by
  have HB := Aside0.mk (Below.refl w.heap.size w)
  have SZ := Aside0.mk r.size
  have HST := Aside0.mk hst
  have HL : Aside0 ((s.list.length + 1) * 72 ≤ 140737488355328) := ⟨by omega⟩
  have HLF : Aside0 (s.list.length ≤ 1000000) := ⟨by omega⟩
  have HLF2 : Aside0 (s.list.length ≤ 4611686018427387904) := ⟨by omega⟩
  have HI := Aside0.mk hi
  have LB := Aside0.mk hb
  have NXF : Aside0 (∀ g, w.heap.size ≤ g → g ≠ gH) := ⟨fun g hg e => by have := blk_lt r.h; omega⟩
  have RR := Aside0.mk r
  clear r hst hl hi hb
  go_enter Try.func35, Try.ntmps35
  go_wp2_with (first
    | ((with_reducible refine gate_dst (N := 3) rfl ?_); refine box_event ?hg (N := 3) ?hd (cs := actC 2 i b (pk)) (t := 53) ?hr ?_; (case hd => rfl); (case hg => rfl); (case hr => exact boxagg_run rfl rfl _); intro gq hg w1q hbox hb; have Gq := Aside0.mk (show w.heap.size ≤ gq from by rw [hg]; exact below_size (by repeat (first | (with_reducible first | exact HB.out | apply below_alloc | apply pw_below_drewN | apply below_drew1) | exact HB.out))); have BKq := Aside0.mk hbox; clear hbox hg; have n0_ := Aside0.mk (below_step (by repeat (first | (with_reducible first | exact HB.out | apply below_alloc | apply pw_below_drewN | apply below_drew1) | exact HB.out)) hb); clear HB; have HB := n0_; clear n0_ hb; have p0 : w1q.cell? ⟨gq, 0, none⟩ = some (.int .i64 2) := (blk_cell BKq.out 0).trans (actC_0 _ _ _ _); have p1 : w1q.cell? ⟨gq, 1, none⟩ = some (.int .i64 i) := (blk_cell BKq.out 1).trans (actC_1 _ _ _ _); have p66 : w1q.cell? ⟨gq, 66, none⟩ = some (pk) := (blk_cell BKq.out 66).trans (actC_66 _ _ _ _ LB.out))
    | ((with_reducible refine gate_dst (N := 4) rfl ?_); refine box_event ?hg (N := 4) ?hd (cs := bcells zero64) (t := 29) ?hr ?_; (case hd => rfl); (case hg => rfl); (case hr => exact alloc29_run rfl _); intro gx hg w1x hbox hb; have Gx := Aside0.mk (show w.heap.size ≤ gx from by rw [hg]; exact below_size (by repeat (first | (with_reducible first | exact HB.out | apply below_alloc | apply pw_below_drewN | apply below_drew1) | exact HB.out))); have BKx := Aside0.mk hbox; clear hbox hg; have n0_ := Aside0.mk (below_step (by repeat (first | (with_reducible first | exact HB.out | apply below_alloc | apply pw_below_drewN | apply below_drew1) | exact HB.out)) hb); (first | have n1_ := Aside0.mk (blk_below BKq.out hb) | have n1_ := Aside0.mk (blk_below (blk_drewN BKq.out _) hb) | have n1_ := Aside0.mk (blk_below (blk_drew BKq.out) hb) | have n1_ := Aside0.mk (blk_below (blk_alloc BKq.out _) hb) | have n1_ := Aside0.mk (blk_below (by first | exact BKq.out | ((with_reducible repeat (first | refine blk_drewN ?_ _ | refine blk_drew ?_ | refine blk_alloc ?_ _)); exact BKq.out)) hb)); clear HB BKq; have HB := n0_; have BKq := n1_; clear n0_ n1_ hb; have p0 : w1x.cell? ⟨gq, 0, none⟩ = some (.int .i64 2) := (blk_cell BKq.out 0).trans (actC_0 _ _ _ _); have p1 : w1x.cell? ⟨gq, 1, none⟩ = some (.int .i64 i) := (blk_cell BKq.out 1).trans (actC_1 _ _ _ _); have p66 : w1x.cell? ⟨gq, 66, none⟩ = some (pk) := (blk_cell BKq.out 66).trans (actC_66 _ _ _ _ LB.out); have NX := Aside0.mk (NXF.out gx Gx.out); have BG := Aside0.mk (Nat.le_trans SZ.out Gx.out))
    | (go_at_call 39; with_reducible refine (FlushR _ B gr gH cH n lt s (RR.out.below HB.out) HST.out HLF.out).mono ?_; rintro e' w3 ⟨rfl, hop⟩; have OP0 := Aside0.mk (hop.first HB.out SZ.out); have k3 := Aside0.mk (hop.keep (RR.out.below HB.out) BKx.out NX.out); clear hop BKx; have BKx := k3; clear k3)
    | (refine wpList_store_row rfl 29 (.tmp 4) (.tmp 27) rfl gx (bcells zero64) rfl (by rfl) 29 (bcells zero64) BKx.out (seal_size _ rfl) rfl (bcells_all _) ?_; have n0 := Aside0.mk (OP0.out.put (X := bcells zero64) BKx.out NX.out Gx.out BG.out); have n1 := Aside0.mk (setRow_heap _ _ _ (bcells zero64) _ _ BKx.out); generalize World.setRow _ _ _ = w4 at n0 n1; clear OP0 BKx; have OP0 := n0; have BKx := n1; clear n0 n1))
  refine bodyPost_ret (results_ct rfl _ _ gx 29 (bcells zero64) (0, 0) _ rfl BKx.out Try.underlying29 rfl (seal_size _ rfl)) rfl ?_
  exact ⟨rfl, OP0.out⟩

set_option maxHeartbeats 8000000 in
set_option maxRecDepth 100000 in
theorem should3 (w : World) (B gr gH cH n : Nat) (lt : Value) (s : RS) (r : RRep B w gr gH cH n lt s) (hst : s.st < 4611686018427387904) (hl : s.list.length ≤ 1000) (i : Int) (hi : i < 9223372036854775808) (b : List Int) (pk : Value) (hb : b.length = 64) :
    Calls Try.prog 35 #[.pointer (some ⟨gr, 0, none⟩), .agg (actC 3 i b (pk))] w fun e' w' => e' = .returned (.tuple #[.agg (bcells zero64), .int .i64 (rA s i).2]) ∧ OpR w B gr gH cH n lt (rA s i).1 w' := by
  have HB := Aside0.mk (Below.refl w.heap.size w)
  have SZ := Aside0.mk r.size
  have HST := Aside0.mk hst
  have HL : Aside0 ((s.list.length + 1) * 72 ≤ 140737488355328) := ⟨by omega⟩
  have HLF : Aside0 (s.list.length ≤ 1000000) := ⟨by omega⟩
  have HLF2 : Aside0 (s.list.length ≤ 4611686018427387904) := ⟨by omega⟩
  have HI := Aside0.mk hi
  have LB := Aside0.mk hb
  have NXF : Aside0 (∀ g, w.heap.size ≤ g → g ≠ gH) := ⟨fun g hg e => by have := blk_lt r.h; omega⟩
  have RR := Aside0.mk r
  clear r hst hl hi hb
  go_enter Try.func35, Try.ntmps35
  go_wp2_with (first
    | ((with_reducible refine gate_dst (N := 3) rfl ?_); refine box_event ?hg (N := 3) ?hd (cs := actC 3 i b (pk)) (t := 53) ?hr ?_; (case hd => rfl); (case hg => rfl); (case hr => exact boxagg_run rfl rfl _); intro gq hg w1q hbox hb; have Gq := Aside0.mk (show w.heap.size ≤ gq from by rw [hg]; exact below_size (by repeat (first | (with_reducible first | exact HB.out | apply below_alloc | apply pw_below_drewN | apply below_drew1) | exact HB.out))); have BKq := Aside0.mk hbox; clear hbox hg; have n0_ := Aside0.mk (below_step (by repeat (first | (with_reducible first | exact HB.out | apply below_alloc | apply pw_below_drewN | apply below_drew1) | exact HB.out)) hb); clear HB; have HB := n0_; clear n0_ hb; have p0 : w1q.cell? ⟨gq, 0, none⟩ = some (.int .i64 3) := (blk_cell BKq.out 0).trans (actC_0 _ _ _ _); have p1 : w1q.cell? ⟨gq, 1, none⟩ = some (.int .i64 i) := (blk_cell BKq.out 1).trans (actC_1 _ _ _ _); have p66 : w1q.cell? ⟨gq, 66, none⟩ = some (pk) := (blk_cell BKq.out 66).trans (actC_66 _ _ _ _ LB.out))
    | ((with_reducible refine gate_dst (N := 4) rfl ?_); refine box_event ?hg (N := 4) ?hd (cs := bcells zero64) (t := 29) ?hr ?_; (case hd => rfl); (case hg => rfl); (case hr => exact alloc29_run rfl _); intro gx hg w1x hbox hb; have Gx := Aside0.mk (show w.heap.size ≤ gx from by rw [hg]; exact below_size (by repeat (first | (with_reducible first | exact HB.out | apply below_alloc | apply pw_below_drewN | apply below_drew1) | exact HB.out))); have BKx := Aside0.mk hbox; clear hbox hg; have n0_ := Aside0.mk (below_step (by repeat (first | (with_reducible first | exact HB.out | apply below_alloc | apply pw_below_drewN | apply below_drew1) | exact HB.out)) hb); (first | have n1_ := Aside0.mk (blk_below BKq.out hb) | have n1_ := Aside0.mk (blk_below (blk_drewN BKq.out _) hb) | have n1_ := Aside0.mk (blk_below (blk_drew BKq.out) hb) | have n1_ := Aside0.mk (blk_below (blk_alloc BKq.out _) hb) | have n1_ := Aside0.mk (blk_below (by first | exact BKq.out | ((with_reducible repeat (first | refine blk_drewN ?_ _ | refine blk_drew ?_ | refine blk_alloc ?_ _)); exact BKq.out)) hb)); clear HB BKq; have HB := n0_; have BKq := n1_; clear n0_ n1_ hb; have p0 : w1x.cell? ⟨gq, 0, none⟩ = some (.int .i64 3) := (blk_cell BKq.out 0).trans (actC_0 _ _ _ _); have p1 : w1x.cell? ⟨gq, 1, none⟩ = some (.int .i64 i) := (blk_cell BKq.out 1).trans (actC_1 _ _ _ _); have p66 : w1x.cell? ⟨gq, 66, none⟩ = some (pk) := (blk_cell BKq.out 66).trans (actC_66 _ _ _ _ LB.out); have NX := Aside0.mk (NXF.out gx Gx.out); have BG := Aside0.mk (Nat.le_trans SZ.out Gx.out))
    | (go_at_call 40; with_reducible refine (ArmR _ B gr gH cH n lt s (RR.out.below HB.out) i HI.out).mono ?_; rintro e' w3 ⟨rfl, hop⟩; have OP0 := Aside0.mk (hop.first HB.out SZ.out); have k3 := Aside0.mk (hop.keep (RR.out.below HB.out) BKx.out NX.out); clear hop BKx; have BKx := k3; clear k3)
    | (refine wpList_store_row rfl 29 (.tmp 4) (.tmp 32) rfl gx (bcells zero64) rfl (by rfl) 29 (bcells zero64) BKx.out (seal_size _ rfl) rfl (bcells_all _) ?_; have n0 := Aside0.mk (OP0.out.put (X := bcells zero64) BKx.out NX.out Gx.out BG.out); have n1 := Aside0.mk (setRow_heap _ _ _ (bcells zero64) _ _ BKx.out); generalize World.setRow _ _ _ = w4 at n0 n1; clear OP0 BKx; have OP0 := n0; have BKx := n1; clear n0 n1))
  refine bodyPost_ret (results_ct rfl _ _ gx 29 (bcells zero64) (0, 0) _ rfl BKx.out Try.underlying29 rfl (seal_size _ rfl)) rfl ?_
  exact ⟨rfl, OP0.out⟩

set_option maxHeartbeats 8000000 in
set_option maxRecDepth 100000 in
theorem should4 (w : World) (B gr gH cH n : Nat) (lt : Value) (s : RS) (r : RRep B w gr gH cH n lt s) (hst : s.st < 4611686018427387904) (hl : s.list.length ≤ 1000) (i : Int) (hi : i < 9223372036854775808) (b : List Int) (A : Option Addr) (c : Nat) (p : List Int) (hb : b.length = 64) (hp : ∀ w', Below B w w' → Kd.C (Kd.int .i64) w' A p.length p) :
    Calls Try.prog 35 #[.pointer (some ⟨gr, 0, none⟩), .agg (actC 4 i b (.slice A p.length c))] w fun e' w' => e' = .returned (.tuple #[.agg (bcells zero64), .int .i64 0]) ∧ OpR w B gr gH cH n lt (rC s p) w' := by
  have HB := Aside0.mk (Below.refl w.heap.size w)
  have SZ := Aside0.mk r.size
  have HST := Aside0.mk hst
  have HL : Aside0 ((s.list.length + 1) * 72 ≤ 140737488355328) := ⟨by omega⟩
  have HLF : Aside0 (s.list.length ≤ 1000000) := ⟨by omega⟩
  have HLF2 : Aside0 (s.list.length ≤ 4611686018427387904) := ⟨by omega⟩
  have HI := Aside0.mk hi
  have LB := Aside0.mk hb
  have NXF : Aside0 (∀ g, w.heap.size ≤ g → g ≠ gH) := ⟨fun g hg e => by have := blk_lt r.h; omega⟩
  have HP2 : Aside0 (∀ W, Below w.heap.size w W → ∀ w', Below B W w' → RFx gr gH lt W w' → Kd.C (Kd.int .i64) w' A p.length p) := ⟨fun W hW w' h1 _ => hp w' ((below_of_le r.size hW).trans h1)⟩
  clear hp
  have RR := Aside0.mk r
  clear r hst hl hi hb
  go_enter Try.func35, Try.ntmps35
  go_wp2_with (first
    | ((with_reducible refine gate_dst (N := 3) rfl ?_); refine box_event ?hg (N := 3) ?hd (cs := actC 4 i b (.slice A p.length c)) (t := 53) ?hr ?_; (case hd => rfl); (case hg => rfl); (case hr => exact boxagg_run rfl rfl _); intro gq hg w1q hbox hb; have Gq := Aside0.mk (show w.heap.size ≤ gq from by rw [hg]; exact below_size (by repeat (first | (with_reducible first | exact HB.out | apply below_alloc | apply pw_below_drewN | apply below_drew1) | exact HB.out))); have BKq := Aside0.mk hbox; clear hbox hg; have n0_ := Aside0.mk (below_step (by repeat (first | (with_reducible first | exact HB.out | apply below_alloc | apply pw_below_drewN | apply below_drew1) | exact HB.out)) hb); clear HB; have HB := n0_; clear n0_ hb; have p0 : w1q.cell? ⟨gq, 0, none⟩ = some (.int .i64 4) := (blk_cell BKq.out 0).trans (actC_0 _ _ _ _); have p1 : w1q.cell? ⟨gq, 1, none⟩ = some (.int .i64 i) := (blk_cell BKq.out 1).trans (actC_1 _ _ _ _); have p66 : w1q.cell? ⟨gq, 66, none⟩ = some (.slice A p.length c) := (blk_cell BKq.out 66).trans (actC_66 _ _ _ _ LB.out))
    | ((with_reducible refine gate_dst (N := 4) rfl ?_); refine box_event ?hg (N := 4) ?hd (cs := bcells zero64) (t := 29) ?hr ?_; (case hd => rfl); (case hg => rfl); (case hr => exact alloc29_run rfl _); intro gx hg w1x hbox hb; have Gx := Aside0.mk (show w.heap.size ≤ gx from by rw [hg]; exact below_size (by repeat (first | (with_reducible first | exact HB.out | apply below_alloc | apply pw_below_drewN | apply below_drew1) | exact HB.out))); have BKx := Aside0.mk hbox; clear hbox hg; have n0_ := Aside0.mk (below_step (by repeat (first | (with_reducible first | exact HB.out | apply below_alloc | apply pw_below_drewN | apply below_drew1) | exact HB.out)) hb); (first | have n1_ := Aside0.mk (blk_below BKq.out hb) | have n1_ := Aside0.mk (blk_below (blk_drewN BKq.out _) hb) | have n1_ := Aside0.mk (blk_below (blk_drew BKq.out) hb) | have n1_ := Aside0.mk (blk_below (blk_alloc BKq.out _) hb) | have n1_ := Aside0.mk (blk_below (by first | exact BKq.out | ((with_reducible repeat (first | refine blk_drewN ?_ _ | refine blk_drew ?_ | refine blk_alloc ?_ _)); exact BKq.out)) hb)); clear HB BKq; have HB := n0_; have BKq := n1_; clear n0_ n1_ hb; have p0 : w1x.cell? ⟨gq, 0, none⟩ = some (.int .i64 4) := (blk_cell BKq.out 0).trans (actC_0 _ _ _ _); have p1 : w1x.cell? ⟨gq, 1, none⟩ = some (.int .i64 i) := (blk_cell BKq.out 1).trans (actC_1 _ _ _ _); have p66 : w1x.cell? ⟨gq, 66, none⟩ = some (.slice A p.length c) := (blk_cell BKq.out 66).trans (actC_66 _ _ _ _ LB.out); have NX := Aside0.mk (NXF.out gx Gx.out); have BG := Aside0.mk (Nat.le_trans SZ.out Gx.out))
    | (go_at_call 41; with_reducible refine (CrashR _ B gr gH cH n lt s (RR.out.below HB.out) A c p HLF2.out (HP2.out _ HB.out)).mono ?_; rintro e' w3 ⟨rfl, hop⟩; have OP0 := Aside0.mk (hop.first HB.out SZ.out); have k3 := Aside0.mk (hop.keep (RR.out.below HB.out) BKx.out NX.out); clear hop BKx; have BKx := k3; clear k3)
    | (refine wpList_store_row rfl 29 (.tmp 4) (.tmp 39) rfl gx (bcells zero64) rfl (by rfl) 29 (bcells zero64) BKx.out (seal_size _ rfl) rfl (bcells_all _) ?_; have n0 := Aside0.mk (OP0.out.put (X := bcells zero64) BKx.out NX.out Gx.out BG.out); have n1 := Aside0.mk (setRow_heap _ _ _ (bcells zero64) _ _ BKx.out); generalize World.setRow _ _ _ = w4 at n0 n1; clear OP0 BKx; have OP0 := n0; have BKx := n1; clear n0 n1))
  refine bodyPost_ret (results_ct rfl _ _ gx 29 (bcells zero64) (0, 0) _ rfl BKx.out Try.underlying29 rfl (seal_size _ rfl)) rfl ?_
  exact ⟨rfl, OP0.out⟩

set_option maxHeartbeats 8000000 in
set_option maxRecDepth 100000 in
theorem should5 (w : World) (B gr gH cH n : Nat) (lt : Value) (s : RS) (r : RRep B w gr gH cH n lt s) (hst : s.st < 4611686018427387904) (hl : s.list.length ≤ 1000) (dd : Int) (h0 : dd ≠ 0) (h1 : dd ≠ 1) (h2 : dd ≠ 2) (h3 : dd ≠ 3) (h4 : dd ≠ 4) (i : Int) (hi : i < 9223372036854775808) (b : List Int) (pk : Value) (hb : b.length = 64) :
    Calls Try.prog 35 #[.pointer (some ⟨gr, 0, none⟩), .agg (actC dd i b (pk))] w fun e' w' => e' = .returned (.tuple #[.agg (bcells (rSu n s i).1), .int .i64 (rSu n s i).2]) ∧ OpR w B gr gH cH n lt s w' := by
  have HB := Aside0.mk (Below.refl w.heap.size w)
  have SZ := Aside0.mk r.size
  have HST := Aside0.mk hst
  have HL : Aside0 ((s.list.length + 1) * 72 ≤ 140737488355328) := ⟨by omega⟩
  have HLF : Aside0 (s.list.length ≤ 1000000) := ⟨by omega⟩
  have HLF2 : Aside0 (s.list.length ≤ 4611686018427387904) := ⟨by omega⟩
  have HI := Aside0.mk hi
  have LB := Aside0.mk hb
  have NXF : Aside0 (∀ g, w.heap.size ≤ g → g ≠ gH) := ⟨fun g hg e => by have := blk_lt r.h; omega⟩
  have LX := Aside0.mk (rSu_len r.lh i)
  have e0 : (dd == 0) = false := beq_false_of_ne h0
  have e1 : (dd == 1) = false := beq_false_of_ne h1
  have e2 : (dd == 2) = false := beq_false_of_ne h2
  have e3 : (dd == 3) = false := beq_false_of_ne h3
  have e4 : (dd == 4) = false := beq_false_of_ne h4
  clear h0 h1 h2 h3 h4
  have RR := Aside0.mk r
  clear r hst hl hi hb
  go_enter Try.func35, Try.ntmps35
  go_wp2_with (first
    | ((with_reducible refine gate_dst (N := 3) rfl ?_); refine box_event ?hg (N := 3) ?hd (cs := actC dd i b (pk)) (t := 53) ?hr ?_; (case hd => rfl); (case hg => rfl); (case hr => exact boxagg_run rfl rfl _); intro gq hg w1q hbox hb; have Gq := Aside0.mk (show w.heap.size ≤ gq from by rw [hg]; exact below_size (by repeat (first | (with_reducible first | exact HB.out | apply below_alloc | apply pw_below_drewN | apply below_drew1) | exact HB.out))); have BKq := Aside0.mk hbox; clear hbox hg; have n0_ := Aside0.mk (below_step (by repeat (first | (with_reducible first | exact HB.out | apply below_alloc | apply pw_below_drewN | apply below_drew1) | exact HB.out)) hb); clear HB; have HB := n0_; clear n0_ hb; have p0 : w1q.cell? ⟨gq, 0, none⟩ = some (.int .i64 dd) := (blk_cell BKq.out 0).trans (actC_0 _ _ _ _); have p1 : w1q.cell? ⟨gq, 1, none⟩ = some (.int .i64 i) := (blk_cell BKq.out 1).trans (actC_1 _ _ _ _); have p66 : w1q.cell? ⟨gq, 66, none⟩ = some (pk) := (blk_cell BKq.out 66).trans (actC_66 _ _ _ _ LB.out))
    | ((with_reducible refine gate_dst (N := 4) rfl ?_); refine box_event ?hg (N := 4) ?hd (cs := bcells zero64) (t := 29) ?hr ?_; (case hd => rfl); (case hg => rfl); (case hr => exact alloc29_run rfl _); intro gx hg w1x hbox hb; have Gx := Aside0.mk (show w.heap.size ≤ gx from by rw [hg]; exact below_size (by repeat (first | (with_reducible first | exact HB.out | apply below_alloc | apply pw_below_drewN | apply below_drew1) | exact HB.out))); have BKx := Aside0.mk hbox; clear hbox hg; have n0_ := Aside0.mk (below_step (by repeat (first | (with_reducible first | exact HB.out | apply below_alloc | apply pw_below_drewN | apply below_drew1) | exact HB.out)) hb); (first | have n1_ := Aside0.mk (blk_below BKq.out hb) | have n1_ := Aside0.mk (blk_below (blk_drewN BKq.out _) hb) | have n1_ := Aside0.mk (blk_below (blk_drew BKq.out) hb) | have n1_ := Aside0.mk (blk_below (blk_alloc BKq.out _) hb) | have n1_ := Aside0.mk (blk_below (by first | exact BKq.out | ((with_reducible repeat (first | refine blk_drewN ?_ _ | refine blk_drew ?_ | refine blk_alloc ?_ _)); exact BKq.out)) hb)); clear HB BKq; have HB := n0_; have BKq := n1_; clear n0_ n1_ hb; have p0 : w1x.cell? ⟨gq, 0, none⟩ = some (.int .i64 dd) := (blk_cell BKq.out 0).trans (actC_0 _ _ _ _); have p1 : w1x.cell? ⟨gq, 1, none⟩ = some (.int .i64 i) := (blk_cell BKq.out 1).trans (actC_1 _ _ _ _); have p66 : w1x.cell? ⟨gq, 66, none⟩ = some (pk) := (blk_cell BKq.out 66).trans (actC_66 _ _ _ _ LB.out); have NX := Aside0.mk (NXF.out gx Gx.out); have BG := Aside0.mk (Nat.le_trans SZ.out Gx.out))
    | (go_at_call 42; with_reducible refine (SureR _ B gr gH cH n lt s (RR.out.below HB.out) i).mono ?_; rintro e' w3 ⟨rfl, hb⟩; have OP0 := Aside0.mk ((OpR.same (RR.out.below HB.out) hb).first HB.out SZ.out); have k3 := Aside0.mk (blk_below BKx.out hb); clear hb BKx; have BKx := k3; clear k3)
    | (refine wpList_store_row rfl 29 (.tmp 4) (.tmp 48) rfl gx (bcells (rSu n s i).1) rfl (by rfl) 29 (bcells zero64) BKx.out (seal_size _ LX.out) (by rw [bcells_size, bcells_size, LX.out]; rfl) (bcells_all _) ?_; have n0 := Aside0.mk (OP0.out.put (X := bcells (rSu n s i).1) BKx.out NX.out Gx.out BG.out); have n1 := Aside0.mk (setRow_heap _ _ _ (bcells (rSu n s i).1) _ _ BKx.out); generalize World.setRow _ _ _ = w4 at n0 n1; clear OP0 BKx; have OP0 := n0; have BKx := n1; clear n0 n1))
  refine bodyPost_ret (results_ct rfl _ _ gx 29 (bcells (rSu n s i).1) (0, 0) _ rfl BKx.out Try.underlying29 rfl (seal_size _ LX.out)) rfl ?_
  exact ⟨rfl, OP0.out⟩
end
section
open Go.RowKit Go.Proofs.YtlnfdhcpnbhkdaaW.PrintWords Go.Proofs.YtlnfdhcpnbhkdaaW.PrintLast Go.Proofs.YtlnfdhcpnbhkdaaW.PrintMore
set_option linter.unusedVariables false
set_option linter.unusedSimpArgs false

theorem askBase {B : Nat} {w : World} {bt : Value} {l : List (Int × List Int)} (h : AskOwn B w bt l) {k : Nat} (hk : bt.ownBlock = some k) : B ≤ k ∧ k < w.heap.size ∧ ∃ cur, w.heap[k]? = some (.cells cur 65 (0, 0)) := by
  obtain ⟨_, inner, ho, _⟩ := h
  exact ⟨own_base ho k hk, own_lt ho k hk, own_typed ho k hk⟩

theorem askBaseR {B : Nat} {w : World} {bt : Value} {l : List (Int × List Int)} (h : AskR B w bt l) {k : Nat} (hk : bt.ownBlock = some k) : B ≤ k ∧ k < w.heap.size ∧ ∃ cur, w.heap[k]? = some (.cells cur 76 (0, 0)) := by
  obtain ⟨_, inner, ho, _⟩ := h
  exact ⟨own_base ho k hk, own_lt ho k hk, own_typed ho k hk⟩
/-- an act of the one disk leaves the other -/
theorem Rep.byR {C : Nat} {w w' : World} {gd ga gh n ca ch : Nat} {bt : Value} {s : DS} (r : E.Rep C w gd ga gh n ca ch bt s) {B gr gH cH : Nat} {lt : Value} {t : RS} (q : RRep B w gr gH cH n lt t) (f : RFx gr gH lt w w') (h1 : gH ≠ ga) (h2 : gH ≠ gh) : E.Rep C w' gd ga gh n ca ch bt s := by
  refine Rep.away r (fun k hk => ?_)
  have ow : ∀ {g ty : Nat} {cs : Array Value}, w.heap[g]? = some (.cells cs ty (0, 0)) → 76 ≠ ty → lt.ownBlock ≠ some g := fun hg ht e => q.l.ne hg ht e rfl
  rcases hk with rfl | rfl | rfl | hk
  · exact (f _ _ r.d (blk_ne r.d q.d (by decide)) (blk_ne r.d q.h (by decide)) (ow r.d (by decide))).trans r.d.symm
  · exact (f _ _ r.a (blk_ne r.a q.d (by decide)) h1.symm (ow r.a (by decide))).trans r.a.symm
  · exact (f _ _ r.h (blk_ne r.h q.d (by decide)) h2.symm (ow r.h (by decide))).trans r.h.symm
  · obtain ⟨_, _, cur, hc⟩ := askBase r.b hk
    exact (f _ _ hc (blk_ne hc q.d (by decide)) (blk_ne hc q.h (by decide)) (ow hc (by decide))).trans hc.symm
theorem RRep.byD {B : Nat} {w w' : World} {gr gH cH n : Nat} {lt : Value} {t : RS} (q : RRep B w gr gH cH n lt t) {C gd ga gh ca ch : Nat} {bt : Value} {s : DS} (r : E.Rep C w gd ga gh n ca ch bt s) (f : E.Fz gd ga gh bt w w') (h1 : gH ≠ ga) (h2 : gH ≠ gh) : RRep B w' gr gH cH n lt t := by
  refine RRep.away q (fun k hk => ?_)
  have ow : ∀ {g ty : Nat} {cs : Array Value}, w.heap[g]? = some (.cells cs ty (0, 0)) → 65 ≠ ty → bt.ownBlock ≠ some g := fun hg ht e => r.b.ne hg ht e rfl
  rcases hk with rfl | rfl | hk
  · exact (f _ _ q.d (blk_ne q.d r.d (by decide)) (blk_ne q.d r.a (by decide)) (blk_ne q.d r.h (by decide)) (ow q.d (by decide))).trans q.d.symm
  · exact (f _ _ q.h (blk_ne q.h r.d (by decide)) h1 h2 (ow q.h (by decide))).trans q.h.symm
  · obtain ⟨_, _, cur, hc⟩ := askBaseR q.l hk
    exact (f _ _ hc (blk_ne hc r.d (by decide)) (blk_ne hc r.a (by decide)) (blk_ne hc r.h (by decide)) (ow hc (by decide))).trans hc.symm
theorem OpD.keepT {W w3 : World} {C gd ga gh n ca ch : Nat} {bt : Value} {s t : DS} (h : OpD W C gd ga gh n ca ch bt t w3) (r : E.Rep C W gd ga gh n ca ch bt s) {g : Nat} {cs : Array Value} (hg : W.heap[g]? = some (.cells cs 53 (0, 0))) : w3.heap[g]? = some (.cells cs 53 (0, 0)) := by
  obtain ⟨bt', _, _, h3⟩ := h
  exact h3 g _ hg (blk_ne hg r.d (by decide)) (blk_ne hg r.a (by decide)) (blk_ne hg r.h (by decide)) (fun e => r.b.ne hg (by decide) e rfl)

theorem ne_of_ty {w : World} {g k : Nat} {cs ds : Array Value} (h1 : w.heap[g]? = some (.cells cs 53 (0, 0))) (h2 : w.heap[k]? = some (.cells ds 29 (0, 0))) : g ≠ k := blk_ne h1 h2 (by decide)

set_option maxHeartbeats 8000000 in
set_option maxRecDepth 100000 in
theorem agree.walk (w : World) (gd gr gH : Nat) (act : Array Value) (hact : (Try.prog.info? 53).map (·.size) = some act.size) (X : List Int) (er : Int) (LX : X.length = 64) (P Q R : World → Prop) (hP : P w)
    (stP : ∀ w1 w2, P w1 → Below w1.heap.size w1 w2 → P w2) (stQ : ∀ w1 w2, Q w1 → Below w1.heap.size w1 w2 → Q w2) (stR : ∀ w1 w2, R w1 → Below w1.heap.size w1 w2 → R w2) (hH : ∀ w1, Q w1 → gH < w1.heap.size)
    (hA : ∀ w1, P w1 → Calls Try.prog 25 #[.pointer (some ⟨gd, 0, none⟩), .agg act] w1 fun e' w' => e' = .returned (.tuple #[.agg (bcells X), .int .i64 er]) ∧ (∀ (g : Nat) (cs : Array Value), w1.heap[g]? = some (.cells cs 53 (0, 0)) → w'.heap[g]? = some (.cells cs 53 (0, 0))) ∧ Q w')
    (hS : ∀ w1, Q w1 → Calls Try.prog 35 #[.pointer (some ⟨gr, 0, none⟩), .agg act] w1 fun e' w' => e' = .returned (.tuple #[.agg (bcells X), .int .i64 er]) ∧ (∀ (g : Nat) (cs : Array Value), w1.heap[g]? = some (.cells cs 29 (0, 0)) → g ≠ gH → w'.heap[g]? = some (.cells cs 29 (0, 0))) ∧ R w') :
    Calls Try.prog 22 #[.pointer (some ⟨gd, 0, none⟩), .pointer (some ⟨gr, 0, none⟩), .agg act] w fun e' w' => e' = .returned (.bool true) ∧ R w' := by
  have HB := Aside0.mk (Below.refl w.heap.size w)
  have HA := Aside0.mk hA
  have HS := Aside0.mk hS
  have HH := Aside0.mk hH
  have PP := Aside0.mk hP
  have LX := Aside0.mk LX
  have hEq : ∀ (d : Nat) (W : World), (Op.equalIn (d + 2) 29 (.agg (bcells X)) (.agg (bcells X))).run Try.prog W = .ok true W := fun d W => (eqArr d X X LX.out LX.out W).trans (by rw [decide_eq_true rfl])
  have de : (er == er) = true := beq_self_eq_true er
  clear hA hS hH hP
  go_enter Try.func22, Try.ntmps22
  go_wp2_with (first
    | ((with_reducible refine gate_dst (N := 5) rfl ?_); refine box_event ?hg (N := 5) ?hd (cs := act) (t := 53) ?hr ?_; (case hd => rfl); (case hg => rfl); (case hr => exact boxagg_run rfl rfl _); intro gq hg w1q hbox hb; have Gq := Aside0.mk (show w.heap.size ≤ gq from by rw [hg]; exact below_size (by repeat (first | (with_reducible first | exact HB.out | apply below_alloc | apply pw_below_drewN | apply below_drew1) | exact HB.out))); have BKq := Aside0.mk hbox; clear hbox hg; have n0_ := Aside0.mk (below_step (by repeat (first | (with_reducible first | exact HB.out | apply below_alloc | apply pw_below_drewN | apply below_drew1) | exact HB.out)) hb); clear HB; have HB := n0_; clear n0_ hb)
    | ((with_reducible refine gate_dst (N := 13) rfl ?_); refine wpList_load_row rfl 53 (.tmp 5) rfl gq rfl 53 (act) (0, 0) _ (by first | exact BKq.out | ((with_reducible repeat (first | refine blk_drewN ?_ _ | refine blk_drew ?_ | refine blk_alloc ?_ _)); exact BKq.out)) Try.underlying53 rfl (hact) ?_)
    | ((with_reducible refine gate_dst (N := 19) rfl ?_); refine wpList_load_row rfl 53 (.tmp 5) rfl gq rfl 53 (act) (0, 0) _ (by first | exact BKq.out | ((with_reducible repeat (first | refine blk_drewN ?_ _ | refine blk_drew ?_ | refine blk_alloc ?_ _)); exact BKq.out)) Try.underlying53 rfl (hact) ?_)
    | (go_at_call 25; with_reducible refine (HA.out _ (stP _ _ PP.out HB.out)).mono ?_; rintro e' w3 ⟨rfl, k53, q3⟩; have n0 := Aside0.mk (k53 _ _ (by first | exact BKq.out | ((with_reducible repeat (first | refine blk_drewN ?_ _ | refine blk_drew ?_ | refine blk_alloc ?_ _)); exact BKq.out))); have n1 := Aside0.mk q3; clear q3 k53 BKq HB; have HB := Aside0.mk (Below.refl w3.heap.size w3); have BKq := n0; have QQ := n1; clear n0 n1)
    | ((with_reducible refine gate_dst (N := 7) rfl ?_); refine box_event ?hg (N := 7) ?hd (cs := bcells zero64) (t := 29) ?hr ?_; (case hd => rfl); (case hg => rfl); (case hr => exact alloc29_run rfl _); intro gx hg w1x hbox hb; have Gx := Aside0.mk (show w3.heap.size ≤ gx from by rw [hg]; exact below_size (by repeat (first | (with_reducible first | exact HB.out | apply below_alloc | apply pw_below_drewN | apply below_drew1) | exact HB.out))); have BKx := Aside0.mk hbox; clear hbox hg; have n0_ := Aside0.mk (below_step (by repeat (first | (with_reducible first | exact HB.out | apply below_alloc | apply pw_below_drewN | apply below_drew1) | exact HB.out)) hb); (first | have n1_ := Aside0.mk (blk_below BKq.out hb) | have n1_ := Aside0.mk (blk_below (blk_drewN BKq.out _) hb) | have n1_ := Aside0.mk (blk_below (blk_drew BKq.out) hb) | have n1_ := Aside0.mk (blk_below (blk_alloc BKq.out _) hb) | have n1_ := Aside0.mk (blk_below (by first | exact BKq.out | ((with_reducible repeat (first | refine blk_drewN ?_ _ | refine blk_drew ?_ | refine blk_alloc ?_ _)); exact BKq.out)) hb)); clear HB BKq; have HB := n0_; have BKq := n1_; clear n0_ n1_ hb; have NX := Aside0.mk (show gx ≠ gH from fun e => absurd (HH.out _ QQ.out) (by have := Gx.out; omega)))
    | (refine wpList_store_row rfl 29 (.tmp 7) (.tmp 15) rfl gx (bcells X) rfl (by rfl) 29 (bcells zero64) (by first | exact BKx.out | ((with_reducible repeat (first | refine blk_drewN ?_ _ | refine blk_drew ?_ | refine blk_alloc ?_ _)); exact BKx.out)) (seal_size _ LX.out) (by rw [bcells_size, bcells_size, LX.out]; rfl) (bcells_all _) ?_; have n0 := Aside0.mk (below_setRow (show Below w3.heap.size w3 _ from by repeat (first | (with_reducible first | exact HB.out | apply below_alloc | apply pw_below_drewN | apply below_drew1) | exact HB.out)) (show w3.heap.size ≤ gx from Gx.out) (bcells X)); have n1 := Aside0.mk (setRow_heap _ _ _ (bcells X) _ _ (by first | exact BKx.out | ((with_reducible repeat (first | refine blk_drewN ?_ _ | refine blk_drew ?_ | refine blk_alloc ?_ _)); exact BKx.out))); have kq := Aside0.mk ((setRow_other _ gx gq (bcells X) (ne_of_ty (by have := BKq.out; exact this) BKx.out)).trans (by first | exact BKq.out | ((with_reducible repeat (first | refine blk_drewN ?_ _ | refine blk_drew ?_ | refine blk_alloc ?_ _)); exact BKq.out))); generalize World.setRow _ _ _ = w3s at n0 n1 kq; clear HB BKx BKq; have HB := n0; have BKx := n1; have BKq := kq; clear kq; clear n0 n1)
    | (go_at_call 35; with_reducible refine (HS.out _ (stQ _ _ QQ.out HB.out)).mono ?_; rintro e' w4 ⟨rfl, k29, q4⟩; have n0 := Aside0.mk (k29 _ _ (by first | exact BKx.out | ((with_reducible repeat (first | refine blk_drewN ?_ _ | refine blk_drew ?_ | refine blk_alloc ?_ _)); exact BKx.out)) NX.out); have n1 := Aside0.mk q4; clear q4 k29 BKx HB; have HB := Aside0.mk (Below.refl w4.heap.size w4); have BKx := n0; have QR := n1; clear n0 n1)
    | ((with_reducible refine gate_dst (N := 9) rfl ?_); refine box_event ?hg (N := 9) ?hd (cs := bcells zero64) (t := 29) ?hr ?_; (case hd => rfl); (case hg => rfl); (case hr => exact alloc29_run rfl _); intro gy hg w1y hbox hb; have Gy := Aside0.mk (show w4.heap.size ≤ gy from by rw [hg]; exact below_size (by repeat (first | (with_reducible first | exact HB.out | apply below_alloc | apply pw_below_drewN | apply below_drew1) | exact HB.out))); have NExy := Aside0.mk (show gx ≠ gy from by rw [hg]; exact Nat.ne_of_lt (blk_lt (by first | exact BKx.out | ((with_reducible repeat (first | refine blk_drewN ?_ _ | refine blk_drew ?_ | refine blk_alloc ?_ _)); exact BKx.out)))); have BKy := Aside0.mk hbox; clear hbox hg; have n0_ := Aside0.mk (below_step (by repeat (first | (with_reducible first | exact HB.out | apply below_alloc | apply pw_below_drewN | apply below_drew1) | exact HB.out)) hb); (first | have n1_ := Aside0.mk (blk_below BKx.out hb) | have n1_ := Aside0.mk (blk_below (blk_drewN BKx.out _) hb) | have n1_ := Aside0.mk (blk_below (blk_drew BKx.out) hb) | have n1_ := Aside0.mk (blk_below (blk_alloc BKx.out _) hb) | have n1_ := Aside0.mk (blk_below (by first | exact BKx.out | ((with_reducible repeat (first | refine blk_drewN ?_ _ | refine blk_drew ?_ | refine blk_alloc ?_ _)); exact BKx.out)) hb)); clear HB BKx; have HB := n0_; have BKx := n1_; clear n0_ n1_ hb)
    | (refine wpList_store_row rfl 29 (.tmp 9) (.tmp 21) rfl gy (bcells X) rfl (by rfl) 29 (bcells zero64) (by first | exact BKy.out | ((with_reducible repeat (first | refine blk_drewN ?_ _ | refine blk_drew ?_ | refine blk_alloc ?_ _)); exact BKy.out)) (seal_size _ LX.out) (by rw [bcells_size, bcells_size, LX.out]; rfl) (bcells_all _) ?_; have n0 := Aside0.mk (below_setRow (show Below w4.heap.size w4 _ from by repeat (first | (with_reducible first | exact HB.out | apply below_alloc | apply pw_below_drewN | apply below_drew1) | exact HB.out)) (show w4.heap.size ≤ gy from Gy.out) (bcells X)); have n1 := Aside0.mk (setRow_heap _ _ _ (bcells X) _ _ (by first | exact BKy.out | ((with_reducible repeat (first | refine blk_drewN ?_ _ | refine blk_drew ?_ | refine blk_alloc ?_ _)); exact BKy.out))); have kx := Aside0.mk ((setRow_other _ gy gx (bcells X) NExy.out).trans (by first | exact BKx.out | ((with_reducible repeat (first | refine blk_drewN ?_ _ | refine blk_drew ?_ | refine blk_alloc ?_ _)); exact BKx.out))); generalize World.setRow _ _ _ = w4s at n0 n1 kx; clear HB BKy BKx; have HB := n0; have BKy := n1; have BKx := kx; clear kx; clear n0 n1)
    | ((with_reducible refine gate_dst (N := 23) rfl ?_); refine wpList_load_row rfl 29 (.tmp 7) rfl gx rfl 29 (bcells X) (0, 0) _ (by first | exact BKx.out | ((with_reducible repeat (first | refine blk_drewN ?_ _ | refine blk_drew ?_ | refine blk_alloc ?_ _)); exact BKx.out)) Try.underlying29 rfl (seal_size _ LX.out) ?_)
    | ((with_reducible refine gate_dst (N := 24) rfl ?_); refine wpList_load_row rfl 29 (.tmp 9) rfl gy rfl 29 (bcells X) (0, 0) _ (by first | exact BKy.out | ((with_reducible repeat (first | refine blk_drewN ?_ _ | refine blk_drew ?_ | refine blk_alloc ?_ _)); exact BKy.out)) Try.underlying29 rfl (seal_size _ LX.out) ?_))
  go_ret
  exact ⟨rfl, stR _ _ QR.out HB.out⟩
end
section
open Go.RowKit Go.Proofs.YtlnfdhcpnbhkdaaW.PrintWords Go.Proofs.YtlnfdhcpnbhkdaaW.PrintLast Go.Proofs.YtlnfdhcpnbhkdaaW.PrintMore
set_option linter.unusedVariables false
set_option linter.unusedSimpArgs false

/-- both disks, and what else holds -/
def Two (P : World → Prop) (C gd ga gh n ca ch B gr gH cH : Nat) (d : DS) (r : RS) (w : World) : Prop := ∃ bt lt, E.Rep C w gd ga gh n ca ch bt d ∧ RRep B w gr gH cH n lt r ∧ P w
/-- the one has acted, and the other not yet -/
def Mid (P : World → Prop) (C gd ga gh n ca ch B gr gH cH : Nat) (d : DS) (r : RS) (w : World) : Prop := Two P C gd ga gh n ca ch B gr gH cH d r w
theorem Two.stay (P : World → Prop) (C gd ga gh n ca ch B gr gH cH : Nat) {d : DS} {r : RS} (pB : ∀ w1 w2, P w1 → Below C w1 w2 → P w2) {w1 w2 : World} (h : Two P C gd ga gh n ca ch B gr gH cH d r w1) (hb : Below w1.heap.size w1 w2) : Two P C gd ga gh n ca ch B gr gH cH d r w2 := by
  obtain ⟨bt, lt, a, b, c⟩ := h
  exact ⟨bt, lt, a.below hb, b.below hb, pB _ _ c (below_of_le a.size hb)⟩
theorem agree.two (P : World → Prop) (C gd ga gh n ca ch B gr gH cH : Nat) (h1 : gH ≠ ga) (h2 : gH ≠ gh) (pB : ∀ w1 w2, P w1 → Below C w1 w2 → P w2) (pR : ∀ w1 w2 lt r, P w1 → RRep B w1 gr gH cH n lt r → Below B w1 w2 → RFx gr gH lt w1 w2 → P w2) (w : World) (act : Array Value) (hact : (Try.prog.info? 53).map (·.size) = some act.size) (X : List Int) (er : Int) (LX : X.length = 64) (d d' : DS) (r r' : RS) (h : Two P C gd ga gh n ca ch B gr gH cH d r w)
    (hA : ∀ w1 bt, E.Rep C w1 gd ga gh n ca ch bt d → P w1 → Calls Try.prog 25 #[.pointer (some ⟨gd, 0, none⟩), .agg act] w1 fun e' w' => e' = .returned (.tuple #[.agg (bcells X), .int .i64 er]) ∧ OpD w1 C gd ga gh n ca ch bt d' w')
    (hS : ∀ w1 lt, RRep B w1 gr gH cH n lt r → P w1 → Calls Try.prog 35 #[.pointer (some ⟨gr, 0, none⟩), .agg act] w1 fun e' w' => e' = .returned (.tuple #[.agg (bcells X), .int .i64 er]) ∧ OpR w1 B gr gH cH n lt r' w') :
    Calls Try.prog 22 #[.pointer (some ⟨gd, 0, none⟩), .pointer (some ⟨gr, 0, none⟩), .agg act] w fun e' w' => e' = .returned (.bool true) ∧ Two P C gd ga gh n ca ch B gr gH cH d' r' w' := by
  refine agree.walk w gd gr gH act hact X er LX (Two P C gd ga gh n ca ch B gr gH cH d r) (Two P C gd ga gh n ca ch B gr gH cH d' r) (Two P C gd ga gh n ca ch B gr gH cH d' r') h (fun w1 w2 a b => Two.stay P C gd ga gh n ca ch B gr gH cH pB a b) (fun w1 w2 a b => Two.stay P C gd ga gh n ca ch B gr gH cH pB a b) (fun w1 w2 a b => Two.stay P C gd ga gh n ca ch B gr gH cH pB a b) ?_ ?_ ?_
  · rintro w1 ⟨bt, lt, _, b, _⟩
    exact blk_lt b.h
  · rintro w1 ⟨bt, lt, a, b, c⟩
    refine (hA w1 bt a c).mono fun e' w' hh => ?_
    obtain ⟨x, y⟩ := hh
    have y2 := y
    obtain ⟨bt', y3, y4, y5⟩ := y
    exact ⟨x, fun g cs hg => y2.keepT a hg, bt', lt, y3, b.byD a y5 h1 h2, pB _ _ c y4⟩
  · rintro w1 ⟨bt, lt, a, b, c⟩
    refine (hS w1 lt b c).mono fun e' w' hh => ?_
    obtain ⟨x, y⟩ := hh
    have y2 := y
    obtain ⟨lt', y3, y4, y5⟩ := y
    exact ⟨x, fun g cs hg hn => y2.keep b hg hn, bt, lt', Rep.byR a b y5 h1 h2, y3, pR _ _ _ _ c b y4 y5⟩
theorem Two.fit {P : World → Prop} {C gd ga gh n ca ch B gr gH cH : Nat} {d : DS} {r : RS} {w : World} (h : Two P C gd ga gh n ca ch B gr gH cH d r w) : Fit n d r := by
  obtain ⟨bt, lt, a, b, c⟩ := h
  exact ⟨a.la, a.lh, b.lh, b.ok⟩
/-- at most so many acts -/
structure Few (k : Nat) (d : DS) : Prop where
  st : d.st ≤ k
  bt : d.btw.length ≤ k
theorem Few.up {k : Nat} {d : DS} (h : Few k d) : Few (k + 1) d := ⟨by have := h.st; omega, by have := h.bt; omega⟩
theorem few_W {k n : Nat} {d : DS} (h : Few k d) (i : Int) (b : List Int) : Few (k + 1) (dW n d i b).1 := by
  have a1 := h.st
  have a2 := h.bt
  unfold dW
  split
  · exact h.up
  · split
    · exact h.up
    · split
      · exact ⟨by show d.st ≤ _; omega, by show d.btw.length ≤ _; omega⟩
      · refine ⟨?_, ?_⟩
        · show d.st + 1 ≤ _
          omega
        · show (d.btw ++ [((i.toNat : Int), b)]).length ≤ _
          rw [List.length_append, List.length_singleton]
          omega
theorem few_F {k : Nat} {d : DS} (h : Few k d) : Few (k + 1) (dF d).1 := by
  have a1 := h.st
  have a2 := h.bt
  unfold dF
  split
  · exact h.up
  · split
    · exact ⟨by show d.st ≤ _; omega, by show d.btw.length ≤ _; omega⟩
    · exact ⟨by show d.st + 1 ≤ _; omega, Nat.zero_le _⟩
theorem few_A {k : Nat} {d : DS} (h : Few k d) (i : Int) : Few (k + 1) (dA d i).1 := by
  have a1 := h.st
  have a2 := h.bt
  unfold dA
  split
  · exact h.up
  · split
    · exact h.up
    · exact ⟨by show d.st ≤ _; omega, by show d.btw.length ≤ _; omega⟩
theorem few_C {k : Nat} {d : DS} (h : Few k d) (n : Nat) (p : List Int) : Few (k + 1) (d.crashE n p) := ⟨by show d.st ≤ _; have := h.st; omega, Nat.zero_le _⟩
theorem agree.calls (P : World → Prop) (C gd ga gh n ca ch B gr gH cH : Nat) (h1 : gH ≠ ga) (h2 : gH ≠ gh) (pB : ∀ w1 w2, P w1 → Below C w1 w2 → P w2) (pR : ∀ w1 w2 lt r, P w1 → RRep B w1 gr gH cH n lt r → Below B w1 w2 → RFx gr gH lt w1 w2 → P w2) (w : World) (d : DS) (r : RS) (h : Two P C gd ga gh n ca ch B gr gH cH d r w) (sim : Sim n d r) (k : Nat) (few : Few k d) (hk : k ≤ 900) (D i : Int) (hi : i < 9223372036854775808) (b : List Int) (hb : b.length = 64) (A : Option Addr) (c : Nat) (p : List Int) (L : Nat) (hL : L ≤ C) (hL2 : L ≤ B) (hp : ∀ w1 w2, P w1 → Below L w1 w2 → Kd.C (Kd.int .i64) w2 A p.length p) :
    Calls Try.prog 22 #[.pointer (some ⟨gd, 0, none⟩), .pointer (some ⟨gr, 0, none⟩), .agg (actC D i b (.slice A p.length c))] w fun e' w' => e' = .returned (.bool true) ∧ ∃ d' r', Two P C gd ga gh n ca ch B gr gH cH d' r' w' ∧ Sim n d' r' ∧ Few (k + 1) d' := by
  have hact : (Try.prog.info? 53).map (·.size) = some (actC D i b (.slice A p.length c)).size := actC_info _ _ _ _ hb
  have st1 : d.st < 4611686018427387904 := by have := few.st; omega
  have l1 : d.btw.length ≤ 1000 := by have := few.bt; omega
  have st2 : r.st < 4611686018427387904 := sim.st ▸ st1
  have l2 : r.list.length ≤ 1000 := sim.btw ▸ l1
  have fit := Two.fit h
  have HPd : ∀ w1, P w1 → ∀ w', Below C w1 w' → Kd.C (Kd.int .i64) w' A p.length p := fun w1 q w' hw => hp w1 w' q (below_of_le hL hw)
  have HPr : ∀ w1, P w1 → ∀ w', Below B w1 w' → Kd.C (Kd.int .i64) w' A p.length p := fun w1 q w' hw => hp w1 w' q (below_of_le hL2 hw)
  by_cases h0 : D = 0
  · subst h0
    obtain ⟨se, ss⟩ := sim_write sim fit i b hb
    exact (agree.two P C gd ga gh n ca ch B gr gH cH h1 h2 pB pR w _ hact zero64 _ rfl d _ r _ h (fun w1 bt a q => answer0 w1 C gd ga gh n ca ch bt d a st1 l1 i hi b _ hb) (fun w1 lt a q => by rw [se]; exact should0 w1 B gr gH cH n lt r a st2 l2 i hi b _ hb)).mono fun e' w' hh => ⟨hh.1, _, _, hh.2, ss, few_W few i b⟩
  by_cases h1' : D = 1
  · subst h1'
    have se := sim_read sim i
    exact (agree.two P C gd ga gh n ca ch B gr gH cH h1 h2 pB pR w _ hact (dRd n d i).1 (dRd n d i).2 (dRd_len fit.la i) d d r r h (fun w1 bt a q => answer1 w1 C gd ga gh n ca ch bt d a st1 l1 i hi b _ hb) (fun w1 lt a q => by rw [se]; exact should1 w1 B gr gH cH n lt r a st2 l2 i hi b _ hb)).mono fun e' w' hh => ⟨hh.1, _, _, hh.2, sim, few.up⟩
  by_cases h2' : D = 2
  · subst h2'
    obtain ⟨se, ss⟩ := sim_flush sim fit
    exact (agree.two P C gd ga gh n ca ch B gr gH cH h1 h2 pB pR w _ hact zero64 _ rfl d _ r _ h (fun w1 bt a q => answer2 w1 C gd ga gh n ca ch bt d a st1 l1 i hi b _ hb) (fun w1 lt a q => by rw [se]; exact should2 w1 B gr gH cH n lt r a st2 l2 i hi b _ hb)).mono fun e' w' hh => ⟨hh.1, _, _, hh.2, ss, few_F few⟩
  by_cases h3' : D = 3
  · subst h3'
    obtain ⟨se, ss⟩ := sim_arm sim i
    exact (agree.two P C gd ga gh n ca ch B gr gH cH h1 h2 pB pR w _ hact zero64 _ rfl d _ r _ h (fun w1 bt a q => answer3 w1 C gd ga gh n ca ch bt d a st1 l1 i hi b _ hb) (fun w1 lt a q => by rw [se]; exact should3 w1 B gr gH cH n lt r a st2 l2 i hi b _ hb)).mono fun e' w' hh => ⟨hh.1, _, _, hh.2, ss, few_A few i⟩
  by_cases h4' : D = 4
  · subst h4'
    have ss := sim_crash sim fit p
    exact (agree.two P C gd ga gh n ca ch B gr gH cH h1 h2 pB pR w _ hact zero64 _ rfl d _ r _ h (fun w1 bt a q => answer4 w1 C gd ga gh n ca ch bt d a st1 l1 i hi b A c p hb (HPd w1 q)) (fun w1 lt a q => should4 w1 B gr gH cH n lt r a st2 l2 i hi b A c p hb (HPr w1 q))).mono fun e' w' hh => ⟨hh.1, _, _, hh.2, ss, few_C few n p⟩
  have se := sim_sure sim i
  exact (agree.two P C gd ga gh n ca ch B gr gH cH h1 h2 pB pR w _ hact (dSu n d i).1 (dSu n d i).2 (dSu_len fit.lh i) d d r r h (fun w1 bt a q => answer5 w1 C gd ga gh n ca ch bt d a st1 l1 D h0 h1' h2' h3' h4' i hi b _ hb) (fun w1 lt a q => by rw [se]; exact should5 w1 B gr gH cH n lt r a st2 l2 D h0 h1' h2' h3' h4' i hi b _ hb)).mono fun e' w' hh => ⟨hh.1, _, _, hh.2, sim, few.up⟩
theorem agree.reads (P : World → Prop) (C gd ga gh n ca ch B gr gH cH : Nat) (h1 : gH ≠ ga) (h2 : gH ≠ gh) (pB : ∀ w1 w2, P w1 → Below C w1 w2 → P w2) (pR : ∀ w1 w2 lt r, P w1 → RRep B w1 gr gH cH n lt r → Below B w1 w2 → RFx gr gH lt w1 w2 → P w2) (w : World) (d : DS) (r : RS) (h : Two P C gd ga gh n ca ch B gr gH cH d r w) (sim : Sim n d r) (few : Few 900 d) (i : Int) (hi : i < 9223372036854775808) (pk : Value) :
    Calls Try.prog 22 #[.pointer (some ⟨gd, 0, none⟩), .pointer (some ⟨gr, 0, none⟩), .agg (actC 1 i zero64 pk)] w fun e' w' => e' = .returned (.bool true) ∧ Two P C gd ga gh n ca ch B gr gH cH d r w' := by
  have hact : (Try.prog.info? 53).map (·.size) = some (actC 1 i zero64 pk).size := actC_info _ _ _ _ rfl
  have st1 : d.st < 4611686018427387904 := by have := few.st; omega
  have l1 : d.btw.length ≤ 1000 := by have := few.bt; omega
  have st2 : r.st < 4611686018427387904 := sim.st ▸ st1
  have l2 : r.list.length ≤ 1000 := sim.btw ▸ l1
  have fit := Two.fit h
  have se := sim_read sim i
  exact agree.two P C gd ga gh n ca ch B gr gH cH h1 h2 pB pR w _ hact (dRd n d i).1 (dRd n d i).2 (dRd_len fit.la i) d d r r h (fun w1 bt a q => answer1 w1 C gd ga gh n ca ch bt d a st1 l1 i hi zero64 _ rfl) (fun w1 lt a q => by rw [se]; exact should1 w1 B gr gH cH n lt r a st2 l2 i hi zero64 _ rfl)
theorem agree.sures (P : World → Prop) (C gd ga gh n ca ch B gr gH cH : Nat) (h1 : gH ≠ ga) (h2 : gH ≠ gh) (pB : ∀ w1 w2, P w1 → Below C w1 w2 → P w2) (pR : ∀ w1 w2 lt r, P w1 → RRep B w1 gr gH cH n lt r → Below B w1 w2 → RFx gr gH lt w1 w2 → P w2) (w : World) (d : DS) (r : RS) (h : Two P C gd ga gh n ca ch B gr gH cH d r w) (sim : Sim n d r) (few : Few 900 d) (i : Int) (hi : i < 9223372036854775808) (pk : Value) :
    Calls Try.prog 22 #[.pointer (some ⟨gd, 0, none⟩), .pointer (some ⟨gr, 0, none⟩), .agg (actC 5 i zero64 pk)] w fun e' w' => e' = .returned (.bool true) ∧ Two P C gd ga gh n ca ch B gr gH cH d r w' := by
  have hact : (Try.prog.info? 53).map (·.size) = some (actC 5 i zero64 pk).size := actC_info _ _ _ _ rfl
  have st1 : d.st < 4611686018427387904 := by have := few.st; omega
  have l1 : d.btw.length ≤ 1000 := by have := few.bt; omega
  have st2 : r.st < 4611686018427387904 := sim.st ▸ st1
  have l2 : r.list.length ≤ 1000 := sim.btw ▸ l1
  have fit := Two.fit h
  have se := sim_sure sim i
  exact agree.two P C gd ga gh n ca ch B gr gH cH h1 h2 pB pR w _ hact (dSu n d i).1 (dSu n d i).2 (dSu_len fit.lh i) d d r r h (fun w1 bt a q => answer5 w1 C gd ga gh n ca ch bt d a st1 l1 5 (by decide) (by decide) (by decide) (by decide) (by decide) i hi zero64 _ rfl) (fun w1 lt a q => by rw [se]; exact should5 w1 B gr gH cH n lt r a st2 l2 5 (by decide) (by decide) (by decide) (by decide) (by decide) i hi zero64 _ rfl)
end
section
open Go.RowKit Go.Proofs.YtlnfdhcpnbhkdaaW.PrintWords Go.Proofs.YtlnfdhcpnbhkdaaW.PrintLast Go.Proofs.YtlnfdhcpnbhkdaaW.PrintMore
set_option linter.unusedVariables false
set_option linter.unusedSimpArgs false

theorem actC_set1 (d n n' : Int) (b : List Int) (pk : Value) : (actC d n b pk).setIfInBounds (1 + 0) (.int .i64 n') = actC d n' b pk := by
  unfold actC
  simp
theorem act_built (dd i : Int) : Try.prog.built 53 [(0, .int .i64 dd), (1, .int .i64 i)] = some (actC dd i zero64 (.slice none 0 0)) := by
  have hsz : (Try.prog.info? 53).map (fun it => it.zero.map (·.cells)) = some (some (actC 0 0 zero64 (.slice none 0 0))) := by kernel_rfl
  cases hit : Try.prog.info? 53 with
  | none => rw [hit] at hsz; cases hsz
  | some it =>
    cases hz : it.zero with
    | none => rw [hit] at hsz; simp [hz] at hsz
    | some z =>
      have hz65 : z.cells = actC 0 0 zero64 (.slice none 0 0) := by rw [hit] at hsz; simpa [hz] using hsz
      unfold Program.built
      rw [hit, Try.underlying53]
      simp only [hz]
      have hp : ∀ fs, Try.prog.underlying 53 = some (.struct fs) → fs.toList.mapM (fun f => (Try.prog.info? f.type).map fun i => (f.offset, i.size)) = some [(0, 1), (1, 1), (2, 64), (66, 1)] := fun fs hf => by
        rw [Try.underlying53] at hf
        injection hf with hf
        injection hf with hf
        subst hf
        kernel_rfl
      rw [hp _ Try.underlying53]
      simp only
      have h67 : (actC 0 0 zero64 (.slice none 0 0)).size = 67 := rfl
      have h67b : (actC dd 0 zero64 (.slice none 0 0)).size = 67 := rfl
      rw [hz65, fill_step (off := 0) (size := 1) (by rfl) (by rfl) (by rw [h67]; decide)]
      show Instr.fill _ (actC dd 0 zero64 (.slice none 0 0)) _ = _
      rw [fill_step (off := 1) (size := 1) (by rfl) (by rfl) (by rw [h67b]; decide), Instr.fill]
      show some ((actC dd 0 zero64 (.slice none 0 0)).setIfInBounds (1 + 0) (.int .i64 i)) = _
      rw [actC_set1]

theorem wpList_act {ops : Array Oper} {rest : List Oper} {o : Oper} {a : Act} {Q : Exit → Act → World → Prop} {w : World} (hgd : o.guard = none) (dd i : Int) (x : Operand) (ho : o.op = .build 53 #[(0, .const (.int .i64 dd)), (1, x)]) (hx : a.eval x = .int .i64 i)
    (h : wpList Try.prog ops Q rest (a.put o.dst (.agg (actC dd i zero64 (.slice none 0 0)))) w) : wpList Try.prog ops Q (o :: rest) a w := by
  refine wpList_plain hgd fun K hK => ?_
  have hr := run_build w 53 #[(0, .int .i64 dd), (1, .int .i64 i)] _ (act_built dd i)
  unfold Oper.wp execOp
  simp only [ho, Sem.run_bind]
  have e : (#[(0, .const (.int .i64 dd)), (1, x)] : Array (Nat × Operand)).map (fun (i, x) => (i, a.eval x)) = #[(0, .int .i64 dd), (1, .int .i64 i)] := by simp only [List.map_toArray, List.map_cons, List.map_nil]; rw [hx]; rfl
  rw [e, hr]
  simp only [Result.andThen_ok, Sem.run_pure]
  exact hK _ _ h

theorem LooseR (w : World) (B gd ga gh n ca ch : Nat) (bt : Value) (s : DS) (r : E.Rep B w gd ga gh n ca ch bt s) (l : List (Int × List Int)) (h : s.btw = l) : Calls Try.prog 16 #[.pointer (some ⟨gd, 0, none⟩)] w fun e w' => e = .returned (.int .i64 (l.length : Int)) ∧ w' = w := by
  subst h
  exact E.Loose.is w B gd ga gh n ca ch bt s r

set_option maxHeartbeats 8000000 in
set_option maxRecDepth 100000 in
theorem twins.calls (P : World → Prop) (C gd ga gh n ca ch B gr gH cH : Nat) (h1 : gH ≠ ga) (h2 : gH ≠ gh) (pB : ∀ w1 w2, P w1 → Below C w1 w2 → P w2) (pR : ∀ w1 w2 lt r, P w1 → RRep B w1 gr gH cH n lt r → Below B w1 w2 → RFx gr gH lt w1 w2 → P w2) (w : World) (d : DS) (r : RS) (h : Two P C gd ga gh n ca ch B gr gH cH d r w) (sim : Sim n d r) (few : Few 900 d) (hn : n ≤ 16384) :
    Calls Try.prog 23 #[.pointer (some ⟨gd, 0, none⟩), .pointer (some ⟨gr, 0, none⟩)] w fun e' w' => e' = .returned (.bool true) ∧ Two P C gd ga gh n ca ch B gr gH cH d r w' := by
  have HT := Aside0.mk h
  have SIM := Aside0.mk sim
  have FEW := Aside0.mk few
  obtain ⟨bt, lt, a, b, c⟩ := h
  obtain ⟨Aq, cq, eq⟩ := Kd.R_slice b.l
  subst eq
  have RA := Aside0.mk a
  have RB := Aside0.mk b
  have SNI := Aside0.mk sim.ni
  have SST := Aside0.mk sim.st
  have SBT := Aside0.mk sim.btw
  have HN := Aside0.mk hn
  have N0 := Aside0.mk b.n0
  clear sim few a b c hn
  go_enter Try.func23, Try.ntmps23
  go_upto_region 1 with fail
  have e1 : ((n : Int) == (n : Int)) = true := beq_self_eq_true _
  have e2 : (r.ni == r.ni) = true := beq_self_eq_true _
  have e3 : (r.st == r.st) = true := beq_self_eq_true _
  have e4 : ((r.list.length : Int) == (r.list.length : Int)) = true := beq_self_eq_true _
  refine start_ (n := 33) (S := fun w' => w'.cell? ⟨gr, 4, none⟩ = some (.bool r.ni) ∧ w'.cell? ⟨gr, 3, none⟩ = some (.int .i64 r.st) ∧ w'.cell? ⟨gr, 1, none⟩ = some (.slice Aq r.list.length cq)) (ds := []) #[false, false, false, false, false, false, false, false, false, false, false, false, false, false, false, false, false, false, false, false, false, false, false, false, false, false, false, false, false, false, false, false, false] (by kernel_rfl) rfl rfl ⟨(blk_cell RB.out.d 4).trans rfl, (blk_cell RB.out.d 3).trans rfl, (blk_cell RB.out.d 1).trans rfl⟩ (fun hHeld => ?_)
  refine pure_ (i := 0) (N := some 6) (v := ?_) (a' := ?_) #[true, false, false, false, false, false, false, false, false, false, false, false, false, false, false, false, false, false, false, false, false, false, false, false, false, false, false, false, false, false, false, false, false] rfl rfl (by kernel_rfl) (fun _ _ _ h => h) (Or.inl ⟨by rfl, ?_⟩) ?_ ?_
  rotate_left
  · intro w'
    go_simp
    with_reducible rfl
  rotate_left
  · simp only [Act.put, List.setIfInBounds_toArray, List.set_cons_zero, List.set_cons_succ, i64_w, i32_w]
    rfl
  refine pure_ (i := 2) (N := some 8) (v := ?_) (a' := ?_) #[true, false, true, false, false, false, false, false, false, false, false, false, false, false, false, false, false, false, false, false, false, false, false, false, false, false, false, false, false, false, false, false, false] rfl rfl (by kernel_rfl) (fun _ _ _ h => h) (Or.inl ⟨by rfl, ?_⟩) ?_ ?_
  rotate_left
  · intro w'
    go_simp
    with_reducible rfl
  rotate_left
  · simp only [Act.put, List.setIfInBounds_toArray, List.set_cons_zero, List.set_cons_succ, i64_w, i32_w]
    rfl
  refine one_ (i := 1) (N := some 7) #[true, true, true, false, false, false, false, false, false, false, false, false, false, false, false, false, false, false, false, false, false, false, false, false, false, false, false, false, false, false, false, false, false] rfl rfl (by kernel_rfl) (by decide) (fun K hK => ?_)
  refine goes_ Try.func26 (by kernel_rfl) rfl #[.pointer (some ⟨gd, 0, none⟩)] (by rfl) rfl rfl (by simp only [List.map_toArray, List.map_cons, List.map_nil]; rfl) ?_
  with_reducible refine (GA.Blocks.row _ gd _ _ n ch bt d.al d.st d.ni (RA.out.below (below_drew1 (Below.refl _ _))).d).mono ?_
  rintro e w4 ⟨rfl, hw⟩
  subst hw
  refine ⟨_, rfl, ?_⟩
  refine hK.out _ _ ⟨(blk_cell RB.out.d 4).trans rfl, (blk_cell RB.out.d 3).trans rfl, (blk_cell RB.out.d 1).trans rfl⟩ (fun hHeld => ?_)
  clear hK K
  refine norm_ (a' := ?_) ?_ ?_
  rotate_left
  · show Act.put _ (some 7) _ = _
    simp only [Act.put, List.setIfInBounds_toArray, List.set_cons_zero, List.set_cons_succ, i64_w, i32_w]
    rfl
  refine one_ (i := 3) (N := some 9) #[true, true, true, true, false, false, false, false, false, false, false, false, false, false, false, false, false, false, false, false, false, false, false, false, false, false, false, false, false, false, false, false, false] rfl rfl (by kernel_rfl) (by decide) (fun K hK => ?_)
  refine goes_ Try.func36 (by kernel_rfl) rfl #[.pointer (some ⟨gr, 0, none⟩)] (by rfl) rfl rfl (by simp only [List.map_toArray, List.map_cons, List.map_nil]; rfl) ?_
  with_reducible refine (Blocks.row _ gr _ n cH _ r.al r.st r.ni (RB.out.below (below_drew1 (Below.refl _ _))).d).mono ?_
  rintro e w4 ⟨rfl, hw⟩
  subst hw
  refine ⟨_, rfl, ?_⟩
  refine hK.out _ _ ⟨(blk_cell RB.out.d 4).trans rfl, (blk_cell RB.out.d 3).trans rfl, (blk_cell RB.out.d 1).trans rfl⟩ (fun hHeld => ?_)
  clear hK K
  refine norm_ (a' := ?_) ?_ ?_
  rotate_left
  · show Act.put _ (some 9) _ = _
    simp only [Act.put, List.setIfInBounds_toArray, List.set_cons_zero, List.set_cons_succ, i64_w, i32_w]
    rfl
  refine pure_ (i := 4) (N := some 10) (v := ?_) (a' := ?_) #[true, true, true, true, true, false, false, false, false, false, false, false, false, false, false, false, false, false, false, false, false, false, false, false, false, false, false, false, false, false, false, false, false] rfl rfl (by kernel_rfl) (fun _ _ _ h => h) (Or.inl ⟨by rfl, ?_⟩) ?_ ?_
  rotate_left
  · intro w'
    go_simp
    with_reducible rfl
  rotate_left
  · simp only [Act.put, List.setIfInBounds_toArray, List.set_cons_zero, List.set_cons_succ, i64_w, i32_w]
    rfl
  refine pure_ (i := 5) (N := some 11) (v := ?_) (a' := ?_) #[true, true, true, true, true, true, false, false, false, false, false, false, false, false, false, false, false, false, false, false, false, false, false, false, false, false, false, false, false, false, false, false, false] rfl rfl (by kernel_rfl) (fun _ _ _ h => h) (Or.inl ⟨by rfl, ?_⟩) ?_ ?_
  rotate_left
  · intro w'
    go_simp
    with_reducible rfl
  rotate_left
  · simp only [Act.put, List.setIfInBounds_toArray, List.set_cons_zero, List.set_cons_succ, i64_w, i32_w]
    rfl
  refine pure_ (i := 6) (N := some 12) (v := ?_) (a' := ?_) #[true, true, true, true, true, true, true, false, false, false, false, false, false, false, false, false, false, false, false, false, false, false, false, false, false, false, false, false, false, false, false, false, false] rfl rfl (by kernel_rfl) (fun _ _ _ h => h) (Or.inl ⟨by rfl, ?_⟩) ?_ ?_
  rotate_left
  · intro w'
    go_simp
    with_reducible rfl
  rotate_left
  · simp only [Act.put, List.setIfInBounds_toArray, List.set_cons_zero, List.set_cons_succ, i64_w, i32_w]
    rfl
  refine pure_ (i := 8) (N := some 14) (v := ?_) (a' := ?_) #[true, true, true, true, true, true, true, false, true, false, false, false, false, false, false, false, false, false, false, false, false, false, false, false, false, false, false, false, false, false, false, false, false] rfl rfl (by kernel_rfl) (fun _ _ _ h => h) (Or.inl ⟨by rfl, ?_⟩) ?_ ?_
  rotate_left
  · intro w'
    go_simp
    with_reducible rfl
  rotate_left
  · simp only [Act.put, List.setIfInBounds_toArray, List.set_cons_zero, List.set_cons_succ, i64_w, i32_w]
    rfl
  refine pure_ (i := 9) (N := some 15) (v := ?_) (a' := ?_) #[true, true, true, true, true, true, true, false, true, true, false, false, false, false, false, false, false, false, false, false, false, false, false, false, false, false, false, false, false, false, false, false, false] rfl rfl (by kernel_rfl) (fun _ _ _ h => h) (Or.inl ⟨by rfl, ?_⟩) ?_ ?_
  rotate_left
  · intro w'
    go_simp
    with_reducible rfl
  rotate_left
  · simp only [Act.put, List.setIfInBounds_toArray, List.set_cons_zero, List.set_cons_succ, i64_w, i32_w]
    rfl
  refine pure_ (i := 10) (N := some 16) (v := ?_) (a' := ?_) #[true, true, true, true, true, true, true, false, true, true, true, false, false, false, false, false, false, false, false, false, false, false, false, false, false, false, false, false, false, false, false, false, false] rfl rfl (by kernel_rfl) (fun _ _ _ h => h) (Or.inl ⟨by rfl, ?_⟩) ?_ ?_
  rotate_left
  · intro w'
    go_simp
    with_reducible rfl
  rotate_left
  · simp only [Act.put, List.setIfInBounds_toArray, List.set_cons_zero, List.set_cons_succ, i64_w, i32_w]
    rfl
  refine take_ (i := 11) (N := some 17) (v := ?_) (a' := ?_) #[true, true, true, true, true, true, true, false, true, true, true, true, false, false, false, false, false, false, false, false, false, false, false, false, false, false, false, false, false, false, false, false, false] rfl rfl (by kernel_rfl) (fun _ _ _ h => h) (Or.inl ⟨by rfl, ?_⟩) hHeld ?_ ?_
  rotate_left
  · rintro w' ⟨s0, s1, s2⟩
    go_simp
    with_reducible rfl
  rotate_left
  · simp only [Act.put, List.setIfInBounds_toArray, List.set_cons_zero, List.set_cons_succ, i64_w, i32_w]
    rfl
  refine one_ (i := 7) (N := some 13) #[true, true, true, true, true, true, true, true, true, true, true, true, false, false, false, false, false, false, false, false, false, false, false, false, false, false, false, false, false, false, false, false, false] rfl rfl (by kernel_rfl) (by decide) (fun K hK => ?_)
  refine goes_ Try.func12 (by kernel_rfl) rfl #[.pointer (some ⟨gd, 0, none⟩)] (by rfl) rfl rfl (by simp only [List.map_toArray, List.map_cons, List.map_nil]; rfl) ?_
  with_reducible refine (E.Dark.is _ C gd ga gh n ca ch bt d (RA.out.below (below_drew1 (Below.refl _ _))) r.ni SNI.out).mono ?_
  rintro e w4 ⟨rfl, hw⟩
  subst hw
  refine ⟨_, rfl, ?_⟩
  refine hK.out _ _ ⟨(blk_cell RB.out.d 4).trans rfl, (blk_cell RB.out.d 3).trans rfl, (blk_cell RB.out.d 1).trans rfl⟩ (fun hHeld => ?_)
  clear hK K
  refine norm_ (a' := ?_) ?_ ?_
  rotate_left
  · show Act.put _ (some 13) _ = _
    simp only [Act.put, List.setIfInBounds_toArray, List.set_cons_zero, List.set_cons_succ, i64_w, i32_w]
    rfl
  refine pure_ (i := 12) (N := some 18) (v := ?_) (a' := ?_) #[true, true, true, true, true, true, true, true, true, true, true, true, true, false, false, false, false, false, false, false, false, false, false, false, false, false, false, false, false, false, false, false, false] rfl rfl (by kernel_rfl) (fun _ _ _ h => h) (Or.inl ⟨by rfl, ?_⟩) ?_ ?_
  rotate_left
  · intro w'
    go_simp
    with_reducible rfl
  rotate_left
  · simp only [Act.put, List.setIfInBounds_toArray, List.set_cons_zero, List.set_cons_succ, i64_w, i32_w]
    rfl
  refine pure_ (i := 13) (N := some 19) (v := ?_) (a' := ?_) #[true, true, true, true, true, true, true, true, true, true, true, true, true, true, false, false, false, false, false, false, false, false, false, false, false, false, false, false, false, false, false, false, false] rfl rfl (by kernel_rfl) (fun _ _ _ h => h) (Or.inl ⟨by rfl, ?_⟩) ?_ ?_
  rotate_left
  · intro w'
    go_simp
    with_reducible rfl
  rotate_left
  · simp only [Act.put, List.setIfInBounds_toArray, List.set_cons_zero, List.set_cons_succ, i64_w, i32_w]
    rfl
  refine pure_ (i := 14) (N := some 20) (v := ?_) (a' := ?_) #[true, true, true, true, true, true, true, true, true, true, true, true, true, true, true, false, false, false, false, false, false, false, false, false, false, false, false, false, false, false, false, false, false] rfl rfl (by kernel_rfl) (fun _ _ _ h => h) (Or.inl ⟨by rfl, ?_⟩) ?_ ?_
  rotate_left
  · intro w'
    go_simp
    with_reducible rfl
  rotate_left
  · simp only [Act.put, List.setIfInBounds_toArray, List.set_cons_zero, List.set_cons_succ, i64_w, i32_w]
    rfl
  refine pure_ (i := 15) (N := some 21) (v := ?_) (a' := ?_) #[true, true, true, true, true, true, true, true, true, true, true, true, true, true, true, true, false, false, false, false, false, false, false, false, false, false, false, false, false, false, false, false, false] rfl rfl (by kernel_rfl) (fun _ _ _ h => h) (Or.inl ⟨by rfl, ?_⟩) ?_ ?_
  rotate_left
  · intro w'
    go_simp
    with_reducible rfl
  rotate_left
  · simp only [Act.put, List.setIfInBounds_toArray, List.set_cons_zero, List.set_cons_succ, i64_w, i32_w]
    rfl
  refine pure_ (i := 17) (N := some 23) (v := ?_) (a' := ?_) #[true, true, true, true, true, true, true, true, true, true, true, true, true, true, true, true, false, true, false, false, false, false, false, false, false, false, false, false, false, false, false, false, false] rfl rfl (by kernel_rfl) (fun _ _ _ h => h) (Or.inl ⟨by rfl, ?_⟩) ?_ ?_
  rotate_left
  · intro w'
    go_simp
    with_reducible rfl
  rotate_left
  · simp only [Act.put, List.setIfInBounds_toArray, List.set_cons_zero, List.set_cons_succ, i64_w, i32_w]
    rfl
  refine pure_ (i := 18) (N := some 24) (v := ?_) (a' := ?_) #[true, true, true, true, true, true, true, true, true, true, true, true, true, true, true, true, false, true, true, false, false, false, false, false, false, false, false, false, false, false, false, false, false] rfl rfl (by kernel_rfl) (fun _ _ _ h => h) (Or.inl ⟨by rfl, ?_⟩) ?_ ?_
  rotate_left
  · intro w'
    go_simp
    with_reducible rfl
  rotate_left
  · simp only [Act.put, List.setIfInBounds_toArray, List.set_cons_zero, List.set_cons_succ, i64_w, i32_w]
    rfl
  refine pure_ (i := 19) (N := some 25) (v := ?_) (a' := ?_) #[true, true, true, true, true, true, true, true, true, true, true, true, true, true, true, true, false, true, true, true, false, false, false, false, false, false, false, false, false, false, false, false, false] rfl rfl (by kernel_rfl) (fun _ _ _ h => h) (Or.inl ⟨by rfl, ?_⟩) ?_ ?_
  rotate_left
  · intro w'
    go_simp
    with_reducible rfl
  rotate_left
  · simp only [Act.put, List.setIfInBounds_toArray, List.set_cons_zero, List.set_cons_succ, i64_w, i32_w]
    rfl
  refine take_ (i := 20) (N := some 26) (v := ?_) (a' := ?_) #[true, true, true, true, true, true, true, true, true, true, true, true, true, true, true, true, false, true, true, true, true, false, false, false, false, false, false, false, false, false, false, false, false] rfl rfl (by kernel_rfl) (fun _ _ _ h => h) (Or.inl ⟨by rfl, ?_⟩) hHeld ?_ ?_
  rotate_left
  · rintro w' ⟨s0, s1, s2⟩
    go_simp
    with_reducible rfl
  rotate_left
  · simp only [Act.put, List.setIfInBounds_toArray, List.set_cons_zero, List.set_cons_succ, i64_w, i32_w]
    rfl
  refine one_ (i := 16) (N := some 22) #[true, true, true, true, true, true, true, true, true, true, true, true, true, true, true, true, true, true, true, true, true, false, false, false, false, false, false, false, false, false, false, false, false] rfl rfl (by kernel_rfl) (by decide) (fun K hK => ?_)
  refine goes_ Try.func13 (by kernel_rfl) rfl #[.pointer (some ⟨gd, 0, none⟩)] (by rfl) rfl rfl (by simp only [List.map_toArray, List.map_cons, List.map_nil]; rfl) ?_
  with_reducible refine (E.Steps.is _ C gd ga gh n ca ch bt d (RA.out.below (below_drew1 (Below.refl _ _))) r.st SST.out).mono ?_
  rintro e w4 ⟨rfl, hw⟩
  subst hw
  refine ⟨_, rfl, ?_⟩
  refine hK.out _ _ ⟨(blk_cell RB.out.d 4).trans rfl, (blk_cell RB.out.d 3).trans rfl, (blk_cell RB.out.d 1).trans rfl⟩ (fun hHeld => ?_)
  clear hK K
  refine norm_ (a' := ?_) ?_ ?_
  rotate_left
  · show Act.put _ (some 22) _ = _
    simp only [Act.put, List.setIfInBounds_toArray, List.set_cons_zero, List.set_cons_succ, i64_w, i32_w]
    rfl
  refine pure_ (i := 21) (N := some 27) (v := ?_) (a' := ?_) #[true, true, true, true, true, true, true, true, true, true, true, true, true, true, true, true, true, true, true, true, true, true, false, false, false, false, false, false, false, false, false, false, false] rfl rfl (by kernel_rfl) (fun _ _ _ h => h) (Or.inl ⟨by rfl, ?_⟩) ?_ ?_
  rotate_left
  · intro w'
    go_simp
    with_reducible rfl
  rotate_left
  · simp only [Act.put, List.setIfInBounds_toArray, List.set_cons_zero, List.set_cons_succ, i64_w, i32_w]
    rfl
  refine pure_ (i := 22) (N := some 28) (v := ?_) (a' := ?_) #[true, true, true, true, true, true, true, true, true, true, true, true, true, true, true, true, true, true, true, true, true, true, true, false, false, false, false, false, false, false, false, false, false] rfl rfl (by kernel_rfl) (fun _ _ _ h => h) (Or.inl ⟨by rfl, ?_⟩) ?_ ?_
  rotate_left
  · intro w'
    go_simp
    with_reducible rfl
  rotate_left
  · simp only [Act.put, List.setIfInBounds_toArray, List.set_cons_zero, List.set_cons_succ, i64_w, i32_w]
    rfl
  refine pure_ (i := 23) (N := some 29) (v := ?_) (a' := ?_) #[true, true, true, true, true, true, true, true, true, true, true, true, true, true, true, true, true, true, true, true, true, true, true, true, false, false, false, false, false, false, false, false, false] rfl rfl (by kernel_rfl) (fun _ _ _ h => h) (Or.inl ⟨by rfl, ?_⟩) ?_ ?_
  rotate_left
  · intro w'
    go_simp
    with_reducible rfl
  rotate_left
  · simp only [Act.put, List.setIfInBounds_toArray, List.set_cons_zero, List.set_cons_succ, i64_w, i32_w]
    rfl
  refine pure_ (i := 24) (N := some 30) (v := ?_) (a' := ?_) #[true, true, true, true, true, true, true, true, true, true, true, true, true, true, true, true, true, true, true, true, true, true, true, true, true, false, false, false, false, false, false, false, false] rfl rfl (by kernel_rfl) (fun _ _ _ h => h) (Or.inl ⟨by rfl, ?_⟩) ?_ ?_
  rotate_left
  · intro w'
    go_simp
    with_reducible rfl
  rotate_left
  · simp only [Act.put, List.setIfInBounds_toArray, List.set_cons_zero, List.set_cons_succ, i64_w, i32_w]
    rfl
  refine pure_ (i := 26) (N := some 32) (v := ?_) (a' := ?_) #[true, true, true, true, true, true, true, true, true, true, true, true, true, true, true, true, true, true, true, true, true, true, true, true, true, false, true, false, false, false, false, false, false] rfl rfl (by kernel_rfl) (fun _ _ _ h => h) (Or.inl ⟨by rfl, ?_⟩) ?_ ?_
  rotate_left
  · intro w'
    go_simp
    with_reducible rfl
  rotate_left
  · simp only [Act.put, List.setIfInBounds_toArray, List.set_cons_zero, List.set_cons_succ, i64_w, i32_w]
    rfl
  refine pure_ (i := 27) (N := some 33) (v := ?_) (a' := ?_) #[true, true, true, true, true, true, true, true, true, true, true, true, true, true, true, true, true, true, true, true, true, true, true, true, true, false, true, true, false, false, false, false, false] rfl rfl (by kernel_rfl) (fun _ _ _ h => h) (Or.inl ⟨by rfl, ?_⟩) ?_ ?_
  rotate_left
  · intro w'
    go_simp
    with_reducible rfl
  rotate_left
  · simp only [Act.put, List.setIfInBounds_toArray, List.set_cons_zero, List.set_cons_succ, i64_w, i32_w]
    rfl
  refine pure_ (i := 28) (N := some 34) (v := ?_) (a' := ?_) #[true, true, true, true, true, true, true, true, true, true, true, true, true, true, true, true, true, true, true, true, true, true, true, true, true, false, true, true, true, false, false, false, false] rfl rfl (by kernel_rfl) (fun _ _ _ h => h) (Or.inl ⟨by rfl, ?_⟩) ?_ ?_
  rotate_left
  · intro w'
    go_simp
    with_reducible rfl
  rotate_left
  · simp only [Act.put, List.setIfInBounds_toArray, List.set_cons_zero, List.set_cons_succ, i64_w, i32_w]
    rfl
  refine take_ (i := 29) (N := some 35) (v := ?_) (a' := ?_) #[true, true, true, true, true, true, true, true, true, true, true, true, true, true, true, true, true, true, true, true, true, true, true, true, true, false, true, true, true, true, false, false, false] rfl rfl (by kernel_rfl) (fun _ _ _ h => h) (Or.inl ⟨by rfl, ?_⟩) hHeld ?_ ?_
  rotate_left
  · rintro w' ⟨s0, s1, s2⟩
    go_simp
    with_reducible rfl
  rotate_left
  · simp only [Act.put, List.setIfInBounds_toArray, List.set_cons_zero, List.set_cons_succ, i64_w, i32_w]
    rfl
  refine pure_ (i := 30) (N := some 36) (v := ?_) (a' := ?_) #[true, true, true, true, true, true, true, true, true, true, true, true, true, true, true, true, true, true, true, true, true, true, true, true, true, false, true, true, true, true, true, false, false] rfl rfl (by kernel_rfl) (fun _ _ _ h => h) (Or.inl ⟨by rfl, ?_⟩) ?_ ?_
  rotate_left
  · intro w'
    go_simp
    with_reducible rfl
  rotate_left
  · simp only [Act.put, List.setIfInBounds_toArray, List.set_cons_zero, List.set_cons_succ, i64_w, i32_w]
    rfl
  refine one_ (i := 25) (N := some 31) #[true, true, true, true, true, true, true, true, true, true, true, true, true, true, true, true, true, true, true, true, true, true, true, true, true, true, true, true, true, true, true, false, false] rfl rfl (by kernel_rfl) (by decide) (fun K hK => ?_)
  refine goes_ Try.func16 (by kernel_rfl) rfl #[.pointer (some ⟨gd, 0, none⟩)] (by rfl) rfl rfl (by simp only [List.map_toArray, List.map_cons, List.map_nil]; rfl) ?_
  with_reducible refine (LooseR _ C gd ga gh n ca ch bt d (RA.out.below (below_drew1 (Below.refl _ _))) r.list SBT.out).mono ?_
  rintro e w4 ⟨rfl, hw⟩
  subst hw
  refine ⟨_, rfl, ?_⟩
  refine hK.out _ _ ⟨(blk_cell RB.out.d 4).trans rfl, (blk_cell RB.out.d 3).trans rfl, (blk_cell RB.out.d 1).trans rfl⟩ (fun hHeld => ?_)
  clear hK K
  refine norm_ (a' := ?_) ?_ ?_
  rotate_left
  · show Act.put _ (some 31) _ = _
    simp only [Act.put, List.setIfInBounds_toArray, List.set_cons_zero, List.set_cons_succ, i64_w, i32_w]
    rfl
  refine pure_ (i := 31) (N := some 37) (v := ?_) (a' := ?_) #[true, true, true, true, true, true, true, true, true, true, true, true, true, true, true, true, true, true, true, true, true, true, true, true, true, true, true, true, true, true, true, true, false] rfl rfl (by kernel_rfl) (fun _ _ _ h => h) (Or.inl ⟨by rfl, ?_⟩) ?_ ?_
  rotate_left
  · intro w'
    go_simp
    with_reducible rfl
  rotate_left
  · simp only [Act.put, List.setIfInBounds_toArray, List.set_cons_zero, List.set_cons_succ, i64_w, i32_w]
    rfl
  refine pure_ (i := 32) (N := some 38) (v := ?_) (a' := ?_) #[true, true, true, true, true, true, true, true, true, true, true, true, true, true, true, true, true, true, true, true, true, true, true, true, true, true, true, true, true, true, true, true, true] rfl rfl (by kernel_rfl) (fun _ _ _ h => h) (Or.inl ⟨by rfl, ?_⟩) ?_ ?_
  rotate_left
  · intro w'
    go_simp
    with_reducible rfl
  rotate_left
  · simp only [Act.put, List.setIfInBounds_toArray, List.set_cons_zero, List.set_cons_succ, i64_w, i32_w]
    rfl
  refine done_ (by kernel_rfl) ?_

  have CL := Aside0.mk (show True from trivial)
  go_wp2_with (go_at_call 36; with_reducible refine (Blocks.row _ gr _ n cH _ r.al r.st r.ni (RB.out.below (below_drew1 (Below.refl _ _))).d).mono ?_; rintro e' w4 ⟨rfl, hw⟩; subst w4)
  go_loopw [5] (fun v5 w' => ∃ j : Int, -1 ≤ j ∧ j ≤ 65 ∧ v5 = .int .i64 j ∧ Aside0 (Two P C gd ga gh n ca ch B gr gH cH d r w')) (fun v5 _ => (intOf v5 + 1).toNat)
  case atStart => exact ⟨min (n : Int) 66 - 1, by omega, by omega, rfl, ⟨Two.stay P C gd ga gh n ca ch B gr gH cH pB HT.out (below_drew1 (Below.refl _ _))⟩⟩
  case round =>
    clear HT
    obtain ⟨j, hj0, hj1, rfl, HT⟩ := hrel
    by_cases hj : 0 ≤ j
    · have d1 : decide (0 ≤ j) = true := decide_eq_true hj
      have d2 : decide (j ≥ 0) = true := decide_eq_true hj
      have HJ : Aside0 (j < 9223372036854775808) := ⟨by omega⟩
      have k1 : wrap64 (j - 1) = j - 1 := wrap_ok (by omega) (by omega)
      have MJ : Aside0 ((j - 1 + 1).toNat < (j + 1).toNat) := ⟨by omega⟩
      have JL : Aside0 (-1 ≤ j - 1 ∧ j - 1 ≤ 65) := ⟨by omega⟩
      have HB := Aside0.mk (Below.refl wr.heap.size wr)
      clear hj0 hj1 hj e1 e2 e3 e4
      go_wp2_with (first
        | ((with_reducible refine gate_dst (N := 50) rfl ?_); refine wpList_act rfl 5 j (.tmp 49) rfl rfl ?_)
        | ((with_reducible refine gate_dst (N := 57) rfl ?_); refine gate_guard (by rfl) ?_; dsimp only; refine wpList_act rfl 1 j (.tmp 56) rfl rfl ?_)
        | (go_at_call 22; with_reducible refine (agree.sures P C gd ga gh n ca ch B gr gH cH h1 h2 pB pR _ d r (Two.stay P C gd ga gh n ca ch B gr gH cH pB HT.out HB.out) SIM.out FEW.out j HJ.out _).mono ?_; rintro e' w4 ⟨rfl, q⟩; have n0 := Aside0.mk q; clear q HT HB; have HT := n0; have HB := Aside0.mk (Below.refl w4.heap.size w4); clear n0)
        | (go_at_call 22; with_reducible refine (agree.reads P C gd ga gh n ca ch B gr gH cH h1 h2 pB pR _ d r (Two.stay P C gd ga gh n ca ch B gr gH cH pB HT.out HB.out) SIM.out FEW.out j HJ.out _).mono ?_; rintro e' w4 ⟨rfl, q⟩; have n0 := Aside0.mk q; clear q HT HB; have HT := n0; have HB := Aside0.mk (Below.refl w4.heap.size w4); clear n0))
      exact ⟨⟨j - 1, JL.out.1, JL.out.2, (by first | rfl | (rw [k1])), ⟨Two.stay P C gd ga gh n ca ch B gr gH cH pB HT.out HB.out⟩⟩, by (try rw [k1]); exact MJ.out⟩
    · have d1 : decide (0 ≤ j) = false := decide_eq_false hj
      have d2 : decide (j ≥ 0) = false := decide_eq_false hj
      go_wp2
      go_ret
      exact ⟨rfl, HT.out⟩
end
section
open Go.RowKit Go.Proofs.YtlnfdhcpnbhkdaaW.PrintWords Go.Proofs.YtlnfdhcpnbhkdaaW.PrintLast Go.Proofs.YtlnfdhcpnbhkdaaW.PrintMore
set_option linter.unusedVariables false
set_option linter.unusedSimpArgs false

theorem run_loadVar_at (w : World) (ad : Addr) (ty : TypeId) (cs : List Value) (d : TypeDesc) (hc : ∀ j v, cs[j]? = some v → w.cell? (ad.add j) = some v)
    (hu : Try.prog.underlying ty = some d) (hd : d.isRow = true) (hi : (Try.prog.info? ty).map (·.size) = some cs.length) :
    (loadVar ty ad).run Try.prog w = .ok (.agg cs.toArray) w := by
  have hl : (loadCells ad cs.length).run Try.prog w = .ok cs.toArray w := run_loadCells_list (P := Try.prog) w ad cs hc
  cases hq : Try.prog.info? ty with
  | none => simp [hq] at hi
  | some i =>
    have hs : i.size = cs.length := by simpa [hq] using hi
    have hagg : (isAgg ty).run Try.prog w = .ok true w := by
      unfold isAgg
      rw [Sem.run_bind, run_underlying hu w]
      cases d <;> simp_all
    simp [loadVar, Sem.run_bind, hagg, sizeOf, typeInfo, hq, hs, hl]

set_option maxHeartbeats 8000000 in
set_option maxRecDepth 100000 in
theorem New.far (w : World) (i : Int) (h0 : ¬ i < 64) (h : 16384 < i) : Calls Try.prog 8 #[.int .i64 i] w fun e w' => e = .returned (.tuple #[.pointer none, .int .i64 2]) ∧ w' = w := by
  have d1 : decide (i < 64) = false := decide_eq_false h0
  have d2 : decide (i > 16384) = true := decide_eq_true h
  have d3 : decide (16384 < i) = true := decide_eq_true h
  go_enter Try.func8, Try.ntmps8
  go_wp2
  go_ret2
  exact ⟨rfl, rfl⟩
theorem New.no (w : World) (i : Int) (h : i < 64 ∨ 16384 < i) : Calls Try.prog 8 #[.int .i64 i] w fun e w' => e = .returned (.tuple #[.pointer none, .int .i64 2]) ∧ w' = w := by
  by_cases h0 : i < 64
  · exact GA.New.few w i h0
  · exact New.far w i h0 (by omega)
theorem New.okN (w : World) (n : Nat) (h0 : 64 ≤ n) (h1 : n ≤ 16384) : Calls Try.prog 21 #[.int .i64 (n : Int)] w fun e' w' => ∃ gr gH cH, e' = .returned (.tuple #[.pointer (some ⟨gr, 0, none⟩), .int .i64 0]) ∧ RRep w.heap.size w' gr gH cH n (.slice none 0 0) ⟨zerosN cH, [], 0, 0, false⟩ ∧ Below w.heap.size w w' :=
  (New.ok w (n : Int) ⟨by omega, by omega⟩).mono fun _ _ h => h
/-- the acts as the law is handed them -/
abbrev kAct : Kd (Int × Int × List Int × List Int) := Kd.iso (Kd.pair (Kd.int .i64) (Kd.pair (Kd.int .i64) (Kd.pair (Kd.arr 64 (Kd.int .u8) (by decide)) (Kd.slice 3 (Kd.int .i64))))) id
theorem act_at {w : World} {A : Option Addr} {l : List (Int × Int × List Int × List Int)} (h : kAct.C w A l.length l) (k : Nat) (v : Int × Int × List Int × List Int) (hk : l[k]? = some v) :
    ∃ ad A2 c2, A = some ad ∧ v.2.2.1.length = 64 ∧ Kd.C (Kd.int .i64) w A2 v.2.2.2.length v.2.2.2 ∧ ∀ j x, (actC v.1 v.2.1 v.2.2.1 (.slice A2 v.2.2.2.length c2)).toList[j]? = some x → w.cell? ((ad.add (k * 67)).add j) = some x := by
  have hkl : k < l.length := (List.getElem?_eq_some_iff.1 hk).1
  obtain ⟨ad, e, hc⟩ := h.2.2 (by omega)
  obtain ⟨c, _, hK, hcell⟩ := hc k v hk
  obtain ⟨c0, c1, e1, h1, c2, c3, e2, h2, c4, c5, e3, h3, A2, cc, h4, _, hC⟩ := hK
  have h3' := Kd.arr_cells (enc := Value.int .u8) (h1 := fun _ => rfl) h3
  have h1' : c0 = [.int .i64 v.1] := h1
  have h2' : c2 = [.int .i64 v.2.1] := h2
  have h4' : c5 = [.slice A2 v.2.2.2.length cc] := h4
  refine ⟨ad, A2, cc, e, h3'.1, hC, fun j x hx => ?_⟩
  have h5 : c = (actC v.1 v.2.1 v.2.2.1 (.slice A2 v.2.2.2.length cc)).toList := by rw [e1, e2, e3, h1', h2', h4', h3'.2]; rfl
  rw [← h5] at hx
  rw [Addr.add_add]
  exact hcell j x hx
section
variable {ops : Array Oper} {rest : List Oper} {o : Oper} {a : Act} {Q : Exit → Act → World → Prop}
theorem wpList_load_act {w : World} (hgd : o.guard = none) (x : Operand) (ho : o.op = .load 53 x) (ad : Addr) (hx : a.eval x = .pointer (some ad)) (cs : Array Value) (hs : (Try.prog.info? 53).map (·.size) = some cs.size) (hr : ∀ j v, cs.toList[j]? = some v → w.cell? (ad.add j) = some v)
    (h : wpList Try.prog ops Q rest (a.put o.dst (.agg cs)) w) : wpList Try.prog ops Q (o :: rest) a w := by
  refine wpList_plain hgd fun K hK => ?_
  unfold Oper.wp execOp
  simp only [ho, hx, Instr.loadAt, Instr.sureAddr, Sem.run_bind, Sem.run_pure, Result.andThen_ok, run_loadVar_at w ad 53 _ _ hr Try.underlying53 rfl (by rw [hs, Array.length_toList])]
  exact hK _ _ h
end

theorem Two.opD (P : World → Prop) (C gd ga gh n ca ch B gr gH cH : Nat) (h1 : gH ≠ ga) (h2 : gH ≠ gh) (pB : ∀ w1 w2, P w1 → Below C w1 w2 → P w2) {d d' : DS} {r : RS} {w w' : World} {bt lt : Value} (a : E.Rep C w gd ga gh n ca ch bt d) (b : RRep B w gr gH cH n lt r) (c : P w) (hop : OpD w C gd ga gh n ca ch bt d' w') : Two P C gd ga gh n ca ch B gr gH cH d' r w' := by
  obtain ⟨bt', y3, y4, y5⟩ := hop
  exact ⟨bt', lt, y3, b.byD a y5 h1 h2, pB _ _ c y4⟩
/-- an act of the one in a bundle of both -/
theorem Two.callD (P : World → Prop) (C gd ga gh n ca ch B gr gH cH : Nat) (h1 : gH ≠ ga) (h2 : gH ≠ gh) (pB : ∀ w1 w2, P w1 → Below C w1 w2 → P w2) {d d' : DS} {r : RS} {w : World} {f : FuncId} {args : Array Value} {v : Value} (h : Two P C gd ga gh n ca ch B gr gH cH d r w)
    (hc : ∀ bt, E.Rep C w gd ga gh n ca ch bt d → Calls Try.prog f args w fun e w' => e = .returned v ∧ OpD w C gd ga gh n ca ch bt d' w') : Calls Try.prog f args w fun e w' => e = .returned v ∧ Two P C gd ga gh n ca ch B gr gH cH d' r w' := by
  obtain ⟨bt, lt, a, b, c⟩ := h
  exact (hc bt a).mono fun e w' hh => ⟨hh.1, Two.opD P C gd ga gh n ca ch B gr gH cH h1 h2 pB a b c hh.2⟩
theorem Two.start {w w1 w2 : World} {gr gH cH n gd ga gh : Nat} (rr : RRep w.heap.size w1 gr gH cH n (.slice none 0 0) ⟨zerosN cH, [], 0, 0, false⟩) (hb : Below w.heap.size w w1) (r : GA.Rep w1.heap.size w2 gd ga gh n (.slice none 0 0) ⟨zerosN n, zerosN n, [], 0, 0, false⟩) (hb2 : Below w1.heap.size w1 w2) :
    Two (fun x => Below w.heap.size w x) w1.heap.size gd ga gh n n n w.heap.size gr gH cH ⟨zerosN n, zerosN n, [], 0, 0, false⟩ ⟨zerosN cH, [], 0, 0, false⟩ w2 ∧ gH ≠ ga ∧ gH ≠ gh ∧ n ≤ cH :=
  ⟨⟨_, _, r.toE, rr.below hb2, below_step hb hb2⟩, fun e => by have := blk_lt rr.h; have := r.ba; omega, fun e => by have := blk_lt rr.h; have := r.bh; omega, by
    have h := rr.lh
    have e : (zerosN cH).length = cH * 64 := List.length_replicate
    have h2 : n * 64 ≤ (zerosN cH).length := h
    omega⟩
end
section
open Go.RowKit Go.Proofs.YtlnfdhcpnbhkdaaW.PrintWords Go.Proofs.YtlnfdhcpnbhkdaaW.PrintLast Go.Proofs.YtlnfdhcpnbhkdaaW.PrintMore
set_option linter.unusedVariables false
set_option linter.unusedSimpArgs false

set_option maxHeartbeats 8000000 in
set_option maxRecDepth 100000 in
theorem plays.no (w : World) (i : Int) (A : Option Addr) (c : Nat) (l : List (Int × Int × List Int × List Int)) (hi : i < 64 ∨ 16384 < i) : Calls Try.prog 6 #[.int .i64 i, .slice A l.length c] w fun e' w' => e' = .returned (.bool true) ∧ Below w.heap.size w w' := by
  have HB := Aside0.mk (Below.refl w.heap.size w)
  have HI := Aside0.mk hi
  clear hi
  go_enter Try.func6, Try.ntmps6
  go_wp2_with (first
    | (go_at_call 21; with_reducible refine (New.bad _ i HI.out).mono ?_; rintro e' w1 ⟨rfl, hb⟩; have n0 := Aside0.mk (below_step HB.out hb); clear HB hb; have HB := n0; clear n0)
    | (go_at_call 8; with_reducible refine (New.no _ i HI.out).mono ?_; rintro e' w2 ⟨rfl, hw⟩; subst w2)
    | (go_at_call 14; with_reducible refine (law_lives.calls _).mono ?_; rintro e' w9 ⟨rfl, hb⟩; have n0 := Aside0.mk (below_step HB.out hb); clear HB hb; have HB := n0; clear n0))
  go_ret
  exact ⟨rfl, HB.out⟩

theorem Two.copied {w w3 w5 : World} {B C gr gH cH n gd ga gh gx ga2 gh2 ca2 ch2 : Nat} {btd lt bt2 : Value} {d s2 : DS} {r : RS} (a : E.Rep C w3 gd ga gh n n n btd d) (b : RRep B w3 gr gH cH n lt r) (hp : Below w.heap.size w w3) (h1 : gH ≠ ga) (h2 : gH ≠ gh) (rc : E.Rep w3.heap.size w5 gx ga2 gh2 n ca2 ch2 bt2 s2) (hb : Below w3.heap.size w3 w5) :
    Two (fun x => Below w.heap.size w x ∧ E.Rep C x gd ga gh n n n btd d) w3.heap.size gx ga2 gh2 n ca2 ch2 B gr gH cH s2 r w5 ∧ gH ≠ ga2 ∧ gH ≠ gh2 ∧ w.heap.size ≤ w3.heap.size ∧ (∀ k, k = gd ∨ k = ga ∨ k = gh ∨ btd.ownBlock = some k → k < w3.heap.size) :=
  ⟨⟨_, _, rc, b.below hb, below_step hp hb, a.below hb⟩, fun e => by have := blk_lt b.h; have := rc.ba; omega, fun e => by have := blk_lt b.h; have := rc.bh; omega, below_size hp, fun k hk => by
    rcases hk with rfl | rfl | rfl | hk
    · exact blk_lt a.d
    · exact blk_lt a.a
    · exact blk_lt a.h
    · exact (askBase a.b hk).2.1⟩
theorem keepB {w x y : World} {C K gd ga gh n : Nat} {btd : Value} {d : DS} (hL : w.heap.size ≤ K) (hk : ∀ k, k = gd ∨ k = ga ∨ k = gh ∨ btd.ownBlock = some k → k < K) (h : Below w.heap.size w x ∧ E.Rep C x gd ga gh n n n btd d) (hb : Below K x y) : Below w.heap.size w y ∧ E.Rep C y gd ga gh n n n btd d :=
  ⟨Below.trans h.1 (below_of_le hL hb), Rep.away h.2 (fun k q => hb.block k (hk k q))⟩
theorem keepR {w x y : World} {C gd ga gh n gr gH cH : Nat} {btd lt : Value} {d : DS} {r : RS} (h1 : gH ≠ ga) (h2 : gH ≠ gh) (h : Below w.heap.size w x ∧ E.Rep C x gd ga gh n n n btd d) (b : RRep w.heap.size x gr gH cH n lt r) (hb : Below w.heap.size x y) (f : RFx gr gH lt x y) : Below w.heap.size w y ∧ E.Rep C y gd ga gh n n n btd d :=
  ⟨Below.trans h.1 hb, Rep.byR h.2 b f h1 h2⟩
theorem Two.sides (P : World → Prop) (C gd ga gh n ca ch B gr gH cH : Nat) {d : DS} {r : RS} {w : World} (h : Two P C gd ga gh n ca ch B gr gH cH d r w) : ∃ bt lt, E.Rep C w gd ga gh n ca ch bt d ∧ RRep B w gr gH cH n lt r ∧ P w := h
theorem Two.last {w x : World} {C C2 gd ga gh gx ga2 gh2 n ca2 ch2 gr gH cH : Nat} {btd : Value} {d t : DS} {r : RS} (h : Two (fun x => Below w.heap.size w x ∧ E.Rep C x gd ga gh n n n btd d) C2 gx ga2 gh2 n ca2 ch2 w.heap.size gr gH cH t r x) : Two (fun x => Below w.heap.size w x) C gd ga gh n n n w.heap.size gr gH cH d r x := by
  obtain ⟨bt, lt, a, b, c, e⟩ := h
  exact ⟨btd, lt, e, b, c⟩
theorem Few.same {k n : Nat} {d s : DS} (h : Few k d) (m : E.Same n d s) : Few k s := ⟨by rw [m.st]; exact h.st, by rw [m.btw]; exact h.bt⟩
theorem Few.le {k m : Nat} {d : DS} (h : Few k d) (hk : k ≤ m) : Few m d := ⟨by have := h.st; omega, by have := h.bt; omega⟩
end
section
open Go.RowKit Go.Proofs.YtlnfdhcpnbhkdaaW.PrintWords Go.Proofs.YtlnfdhcpnbhkdaaW.PrintLast Go.Proofs.YtlnfdhcpnbhkdaaW.PrintMore
set_option linter.unusedVariables false
set_option linter.unusedSimpArgs false

def b5 : List Int := List.replicate 64 5
theorem b5_len : b5.length = 64 := rfl
theorem all5 (w : World) : Calls Try.prog 24 #[.int .u8 5] w fun e' w' => e' = .returned (.agg (bcells b5)) ∧ Below w.heap.size w w' := GA.all.calls 5 w
theorem Two.below {w x : World} {C gd ga gh n ca ch B gr gH cH : Nat} {d : DS} {r : RS} (h : Two (fun x => Below w.heap.size w x) C gd ga gh n ca ch B gr gH cH d r x) : Below w.heap.size w x := by
  obtain ⟨bt, lt, a, b, c⟩ := h
  exact c

theorem pick124_make (W : World) : (Instr.buildSlice 37 3 #[(0, .int .i64 1), (1, .int .i64 2), (2, .int .i64 64)]).run Try.prog W = .ok (.slice (some ⟨W.heap.size, 0, none⟩) 3 3) (W.alloc (.cells #[.int .i64 1, .int .i64 2, .int .i64 64] 3)) := by kernel_rfl
theorem pick124_run {o : Oper} {a : Act} (ho : o.op = .buildSlice 37 3 #[(0, .const (.int .i64 1)), (1, .const (.int .i64 2)), (2, .const (.int .i64 64))]) (W : World) : (execOp a.eval o).run Try.prog W = .ok (.value (.slice (some ⟨W.heap.size, 0, none⟩) 3 3)) (W.alloc (.cells #[.int .i64 1, .int .i64 2, .int .i64 64] 3 (0, 0))) := by
  unfold execOp
  have hm : #[((0 : Nat), Operand.const (.int .i64 1)), (1, .const (.int .i64 2)), (2, .const (.int .i64 64))].map (fun (i, x) => (i, a.eval x)) = #[(0, .int .i64 1), (1, .int .i64 2), (2, .int .i64 64)] := by simp [Act.eval]
  simp only [ho, hm, Sem.run_bind, pick124_make, Result.andThen_ok, Sem.run_pure]
theorem pick124_C {w : World} {g : Nat} (hb : w.heap[g]? = some (.cells #[.int .i64 1, .int .i64 2, .int .i64 64] 3 (0, 0))) : Kd.C (Kd.int .i64) w (some ⟨g, 0, none⟩) [(1 : Int), 2, 64].length [1, 2, 64] := by
  refine Kd.C_of_reads (d := (0 : Int)) (h1 := fun _ => rfl) ⟨rfl, by decide, fun _ => ⟨⟨g, 0, none⟩, rfl, fun j hj => ?_⟩⟩
  have hj0 : j = 0 ∨ j = 1 ∨ j = 2 := by simp at hj; omega
  rcases hj0 with rfl | rfl | rfl
  · rw [Addr.add_mid, blk_cell hb]; rfl
  · rw [Addr.add_mid, blk_cell hb]; rfl
  · rw [Addr.add_mid, blk_cell hb]; rfl
theorem Two.crash (P : World → Prop) (C gd ga gh n ca ch B gr gH cH : Nat) (h1 : gH ≠ ga) (h2 : gH ≠ gh) (pB : ∀ w1 w2, P w1 → Below C w1 w2 → P w2) (w : World) (d : DS) (r : RS) (h : Two P C gd ga gh n ca ch B gr gH cH d r w) (few : Few 900 d) (gp : Nat) (hg : w.heap[gp]? = some (.cells #[.int .i64 1, .int .i64 2, .int .i64 64] 3 (0, 0))) :
    Calls Try.prog 17 #[.pointer (some ⟨gd, 0, none⟩), .slice (some ⟨gp, 0, none⟩) 3 3] w fun e w' => e = .returned (.int .i64 0) ∧ Two P C gd ga gh n ca ch B gr gH cH (d.crashE n [1, 2, 64]) r w' :=
  Two.callD P C gd ga gh n ca ch B gr gH cH h1 h2 pB h (fun bt a => CrashD w C gd ga gh n ca ch bt d a (some ⟨gp, 0, none⟩) 3 [1, 2, 64] (by have := few.bt; omega) (fun w' _ f => pick124_C (f gp _ hg (blk_ne hg a.d (by decide)) (blk_ne hg a.a (by decide)) (blk_ne hg a.h (by decide)))))
theorem Two.write (P : World → Prop) (C gd ga gh n ca ch B gr gH cH : Nat) (h1 : gH ≠ ga) (h2 : gH ≠ gh) (pB : ∀ w1 w2, P w1 → Below C w1 w2 → P w2) (w : World) (d : DS) (r : RS) (h : Two P C gd ga gh n ca ch B gr gH cH d r w) (few : Few 900 d) (i : Int) (b : List Int) (hb : b.length = 64) :
    Calls Try.prog 10 #[.pointer (some ⟨gd, 0, none⟩), .int .i64 i, .agg (bcells b)] w fun e w' => e = .returned (.int .i64 (dW n d i b).2) ∧ Two P C gd ga gh n ca ch B gr gH cH (dW n d i b).1 r w' :=
  Two.callD P C gd ga gh n ca ch B gr gH cH h1 h2 pB h (fun bt a => WriteD w C gd ga gh n ca ch bt d a (by have := few.st; omega) (by have := few.bt; omega) i b hb)
theorem Two.flush (P : World → Prop) (C gd ga gh n ca ch B gr gH cH : Nat) (h1 : gH ≠ ga) (h2 : gH ≠ gh) (pB : ∀ w1 w2, P w1 → Below C w1 w2 → P w2) (w : World) (d : DS) (r : RS) (h : Two P C gd ga gh n ca ch B gr gH cH d r w) (few : Few 900 d) :
    Calls Try.prog 11 #[.pointer (some ⟨gd, 0, none⟩)] w fun e w' => e = .returned (.int .i64 (dF d).2) ∧ Two P C gd ga gh n ca ch B gr gH cH (dF d).1 r w' :=
  Two.callD P C gd ga gh n ca ch B gr gH cH h1 h2 pB h (fun bt a => FlushD w C gd ga gh n ca ch bt d a (by have := few.st; omega) (by have := few.bt; omega))

set_option maxHeartbeats 32000000 in
set_option maxRecDepth 100000 in
theorem plays.ok (w : World) (n : Nat) (A : Option Addr) (c : Nat) (l : List (Int × Int × List Int × List Int)) (h0 : 64 ≤ n) (h1 : n ≤ 16384) (hr : kAct.C w A l.length l) (hwf : ∀ x ∈ l, x.2.1 < 9223372036854775808) (hll : l.length ≤ 9223372036854775807) : Calls Try.prog 6 #[.int .i64 (n : Int), .slice A l.length c] w fun e' w' => e' = .returned (.bool true) ∧ Below w.heap.size w w' := by
  have HB := Aside0.mk (Below.refl w.heap.size w)
  have H0 := Aside0.mk h0
  have H1 := Aside0.mk h1
  have HR := Aside0.mk hr
  have HWF := Aside0.mk hwf
  obtain ⟨M, hM⟩ : ∃ M, M = min l.length 60 := ⟨_, rfl⟩
  have HM0 := Aside0.mk hM
  have HM : Aside0 (M ≤ 60) := ⟨by omega⟩
  clear h0 h1 hr hwf hM
  go_enter Try.func6, Try.ntmps6
  go_wp2_with (first
    | (go_at_call 21; with_reducible refine (New.okN _ n H0.out H1.out).mono ?_; rintro e' w1 ⟨gr, gH, cH, rfl, rr, hb⟩; have RR := Aside0.mk rr; have L1 := Aside0.mk (below_size hb); have HB1 := Aside0.mk hb; clear rr hb HB)
    | (go_at_call 8; with_reducible refine (GA.New.ok w1 n H0.out H1.out).mono ?_; rintro e' w2 ⟨gd, rfl, ⟨ga, gh, rep⟩, hb⟩; have TW := Aside0.mk (Two.start RR.out HB1.out rep hb); clear rep hb RR))
  have SM0 := Aside0.mk (sim_start n cH TW.out.2.2.2)
  have NE1 := Aside0.mk TW.out.2.1
  have NE2 := Aside0.mk TW.out.2.2.1
  go_loopw [9] (fun v9 w' => ∃ (k : Nat) (d : DS) (r : RS), k ≤ M ∧ v9 = .int .i64 k ∧ Aside0 (Two (fun x => Below w.heap.size w x) w1.heap.size gd ga gh n n n w.heap.size gr gH cH d r w') ∧ Aside0 (Sim n d r) ∧ Aside0 (Few k d)) (fun v9 _ => M - (intOf v9).toNat)
  case atStart => exact ⟨0, _, _, Nat.zero_le _, rfl, ⟨TW.out.1⟩, SM0, ⟨Int.le_refl 0, Nat.le_refl 0⟩⟩
  case round =>
    clear TW SM0
    obtain ⟨k, d, r, hk, rfl, TT, SIM, FEW⟩ := hrel
    by_cases hlt : k < M
    · have hkl : k < l.length := by have := HM0.out; omega
      have k0 : (0 : Int) ≤ (k : Int) := Int.natCast_nonneg k
      have k1 : (k : Int) < (l.length : Int) := by omega
      have kM : (k : Int) < min (l.length : Int) 60 := by have := HM.out; omega
      have kM2 : decide ((k : Int) < min (l.length : Int) 60) = true := decide_eq_true kM
      have k3 : wrap64 ((k : Int) + 1) = (k : Int) + 1 := wrap_ok (by omega) (by have := HM.out; omega)
      have HK : Aside0 (k < 60) := ⟨by have := HM.out; omega⟩
      have MJ : Aside0 (M - ((k : Int) + 1).toNat < M - ((k : Int)).toNat) := ⟨by omega⟩
      have HLT := Aside0.mk (show k + 1 ≤ M from hlt)
      obtain ⟨v, hv⟩ : ∃ v, l[k]? = some v := ⟨_, List.getElem?_eq_getElem hkl⟩
      have WF := Aside0.mk (HWF.out v (List.mem_of_getElem? hv))
      obtain ⟨ad, A2, c2, eA, hb64, hC, hcell⟩ := act_at HR.out k v hv
      subst eA
      have LB := Aside0.mk hb64
      have PK := Aside0.mk hC
      have CC := Aside0.mk hcell
      have PX := Aside0.mk (Two.below TT.out)
      clear hkl hlt hv hb64 hC hcell hk
      go_wp2_with (first
        | ((with_reducible refine gate_dst (N := 43) rfl ?_); refine wpList_load_act rfl (.tmp 42) rfl (ad.add (k * 67)) rfl (actC v.1 v.2.1 v.2.2.1 (.slice A2 v.2.2.2.length c2)) (actC_info _ _ _ _ LB.out) (fun j x hx => pw_cell_below PX.out (CC.out j x hx)) ?_)
        | (go_at_call 22; with_reducible refine (agree.calls (fun x => Below w.heap.size w x) w1.heap.size gd ga gh n n n w.heap.size gr gH cH NE1.out NE2.out (fun _ _ a b => Below.trans a (below_of_le L1.out b)) (fun _ _ _ _ a _ b _ => Below.trans a b) _ d r TT.out SIM.out k FEW.out (by have := HK.out; omega) v.1 v.2.1 WF.out v.2.2.1 LB.out A2 c2 v.2.2.2 w.heap.size L1.out (Nat.le_refl _) (fun a b hP hb => Kd.C_below PK.out (Below.trans hP hb))).mono ?_; rintro e' w4 ⟨rfl, d', r', q1, q2, q3⟩; have Q1 := Aside0.mk q1; have Q2 := Aside0.mk q2; have Q3 := Aside0.mk q3; clear q1 q2 q3 TT SIM FEW PX))
      exact ⟨⟨k + 1, d', r', HLT.out, by first | rfl | (rw [Int.natCast_add]; rfl) | (rw [k3, Int.natCast_add]; rfl), Q1, Q2, Q3⟩, by (try rw [k3]); exact MJ.out⟩
    · have hin : k = M := by omega
      have kM : decide ((k : Int) < min (l.length : Int) 60) = false := decide_eq_false (by have := HM0.out; omega)
      have FD := Aside0.mk (FEW.out.le (show k ≤ 900 by have := HM.out; omega))
      have FEW := Aside0.mk (FEW.out.le (show k ≤ 60 by have := HM.out; omega))
      obtain ⟨btd, lt, a, b, px⟩ := Two.sides _ _ _ _ _ _ _ _ _ _ _ _ TT.out
      have RD := Aside0.mk a
      have RB := Aside0.mk b
      have PX := Aside0.mk px
      clear a b px hin hk hlt
      go_wp2_with (first
        | (go_at_call 20; with_reducible refine (E.Copy.calls _ w1.heap.size gd ga gh n n n btd d RD.out H1.out (by have := FEW.out.bt; have := HM.out; omega)).mono ?_; rintro e' w5 ⟨gx, rfl, ⟨ga2, gh2, ca2, ch2, bt2, s2, rc, same⟩, hb⟩; have TC0 := Aside0.mk (Two.copied RD.out RB.out PX.out NE1.out NE2.out rc hb); have TC := Aside0.mk TC0.out.1; have NX1 := Aside0.mk TC0.out.2.1; have NX2 := Aside0.mk TC0.out.2.2.1; have L3 := Aside0.mk TC0.out.2.2.2.1; have OWN := Aside0.mk TC0.out.2.2.2.2; have SM := Aside0.mk (sim_same SIM.out same); have FC0 := Aside0.mk (FEW.out.same same); have FC := Aside0.mk (FC0.out.le (show 60 ≤ 900 by decide)); have FG0 := Aside0.mk (few_C FC0.out n [1, 2, 64]); have FG := Aside0.mk (FG0.out.le (show 61 ≤ 900 by decide)); have FH := Aside0.mk ((few_W (n := n) FG0.out 3 b5).le (show 62 ≤ 900 by decide)); clear rc same hb TC0 FC0 FG0)
        | (go_at_call 23; with_reducible refine (twins.calls (fun x => Below w.heap.size w x ∧ E.Rep w1.heap.size x gd ga gh n n n btd d) wr.heap.size gx ga2 gh2 n ca2 ch2 w.heap.size gr gH cH NX1.out NX2.out (fun _ _ a b => keepB L3.out OWN.out a b) (fun _ _ _ _ a b e f => keepR NE1.out NE2.out a b e f) _ s2 r TC.out SM.out FC.out H1.out).mono ?_; rintro e' w6 ⟨rfl, q⟩; have TE := Aside0.mk q; clear q TC)
        | ((with_reducible refine gate_dst (N := 53) rfl ?_); refine mk_event rfl (N := 53) rfl (cs := #[.int .i64 1, .int .i64 2, .int .i64 64]) (t := 3) (n := 3) (pick124_run rfl _) ?_; intro gp hg w7 hbox hb; have BKp := Aside0.mk hbox; have TF := Aside0.mk (Two.stay (fun x => Below w.heap.size w x ∧ E.Rep w1.heap.size x gd ga gh n n n btd d) wr.heap.size gx ga2 gh2 n ca2 ch2 w.heap.size gr gH cH (fun _ _ a b => keepB L3.out OWN.out a b) TE.out hb); clear TE hbox hg hb)
        | (go_at_call 17; with_reducible refine (Two.crash (fun x => Below w.heap.size w x ∧ E.Rep w1.heap.size x gd ga gh n n n btd d) wr.heap.size gx ga2 gh2 n ca2 ch2 w.heap.size gr gH cH NX1.out NX2.out (fun _ _ a b => keepB L3.out OWN.out a b) _ s2 r TF.out FC.out gp BKp.out).mono ?_; rintro e' w8 ⟨rfl, q⟩; have TG := Aside0.mk q; clear q TF)
        | (go_at_call 24; with_reducible refine (all5 _).mono ?_; rintro e' wa ⟨rfl, hb⟩; have TH := Aside0.mk (Two.stay (fun x => Below w.heap.size w x ∧ E.Rep w1.heap.size x gd ga gh n n n btd d) wr.heap.size gx ga2 gh2 n ca2 ch2 w.heap.size gr gH cH (fun _ _ a b => keepB L3.out OWN.out a b) TG.out hb); clear TG hb)
        | (go_at_call 10; with_reducible refine (Two.write (fun x => Below w.heap.size w x ∧ E.Rep w1.heap.size x gd ga gh n n n btd d) wr.heap.size gx ga2 gh2 n ca2 ch2 w.heap.size gr gH cH NX1.out NX2.out (fun _ _ a b => keepB L3.out OWN.out a b) _ (s2.crashE n [1, 2, 64]) r TH.out FG.out 3 b5 b5_len).mono ?_; rintro e' wb ⟨rfl, q⟩; have TI := Aside0.mk q; clear q TH)
        | (go_at_call 11; with_reducible refine (Two.flush (fun x => Below w.heap.size w x ∧ E.Rep w1.heap.size x gd ga gh n n n btd d) wr.heap.size gx ga2 gh2 n ca2 ch2 w.heap.size gr gH cH NX1.out NX2.out (fun _ _ a b => keepB L3.out OWN.out a b) _ _ r TI.out FH.out).mono ?_; rintro e' wc ⟨rfl, q⟩; have TJ := Aside0.mk (Two.last q); clear q TI)
        | (go_at_call 23; with_reducible refine (twins.calls (fun x => Below w.heap.size w x) w1.heap.size gd ga gh n n n w.heap.size gr gH cH NE1.out NE2.out (fun _ _ a b => Below.trans a (below_of_le L1.out b)) (fun _ _ _ _ a _ b _ => Below.trans a b) _ d r TJ.out SIM.out FD.out H1.out).mono ?_; rintro e' wd ⟨rfl, q⟩; have TK := Aside0.mk q; have HB := Aside0.mk (Two.below q); clear q TJ)
        | (go_at_call 14; with_reducible refine (law_lives.calls _).mono ?_; rintro e' w9 ⟨rfl, hb⟩; have n0 := Aside0.mk (below_step HB.out hb); clear HB hb; have HB := n0; clear n0))
      go_ret
      exact ⟨rfl, HB.out⟩

theorem diskPlays.calls (w : World) (i : Int) (A : Option Addr) (c : Nat) (l : List (Int × Int × List Int × List Int)) (hr : kAct.C w A l.length l) (hwf : ∀ x ∈ l, x.2.1 < 9223372036854775808) : Calls Try.prog 6 #[.int .i64 i, .slice A l.length c] w fun e' w' => e' = .returned (.bool true) ∧ Below w.heap.size w w' := by
  by_cases h : i < 64 ∨ 16384 < i
  · exact plays.no w i A c l h
  · obtain ⟨n, rfl⟩ : ∃ n : Nat, i = n := ⟨i.toNat, by omega⟩
    exact plays.ok w n A c l (by omega) (by omega) hr hwf hr.2.1
end
end Go.Proofs.Ytlnfdhcpnbhkdaa.GA.F
