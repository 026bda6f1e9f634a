/- Blocks in memory: loads, stores and copies of 64 bytes. No condition. -/
import Derived.Test.YtlnfdhcpnbhkdaaF11
import Derived.Laws.CopyOwn
import Derived.ChangeKeysEq
import Derived.Deep.RegionHeld3
import Derived.Deep.MidRow
import Derived.Great.Walk
import Derived.Deep.LoopGhost
import Derived.Deep.DeepCutAuto
namespace Go.Proofs.Ytlnfdhcpnbhkdaa.GA.F
open Go.RowKit Go.Proofs.YtlnfdhcpnbhkdaaW.PrintWords Go.Proofs.YtlnfdhcpnbhkdaaW.PrintLast Go.Proofs.YtlnfdhcpnbhkdaaW.PrintMore
set_option linter.unusedVariables false
set_option linter.unusedSimpArgs false

def actC (d n : Int) (b : List Int) (pk : Value) : Array Value := (.int .i64 d :: .int .i64 n :: (encs (Value.int .u8) b ++ [pk])).toArray
theorem actC_size (d n : Int) (b : List Int) (pk : Value) (hb : b.length = 64) : (actC d n b pk).size = 67 := by
  unfold actC
  rw [List.size_toArray, List.length_cons, List.length_cons, List.length_append, encs_length, hb]
  rfl
theorem actC_info (d n : Int) (b : List Int) (pk : Value) (hb : b.length = 64) : (Try.prog.info? 53).map (·.size) = some (actC d n b pk).size := by
  rw [actC_size d n b pk hb]
  kernel_rfl
theorem actC_set (d n d' : Int) (b : List Int) (pk : Value) : (actC d n b pk).setIfInBounds 0 (.int .i64 d') = actC d' n b pk := by
  unfold actC
  rw [List.setIfInBounds_toArray, List.set_cons_zero]
theorem actC_0 (d n : Int) (b : List Int) (pk : Value) : (actC d n b pk)[0]? = some (.int .i64 d) := rfl
theorem actC_1 (d n : Int) (b : List Int) (pk : Value) : (actC d n b pk)[1]? = some (.int .i64 n) := rfl
theorem actC_66 (d n : Int) (b : List Int) (pk : Value) (hb : b.length = 64) : (actC d n b pk)[66]? = some pk := by
  unfold actC
  have e : (.int .i64 d :: .int .i64 n :: (encs (Value.int .u8) b ++ [pk]) : List Value).toArray[66]? = (.int .i64 d :: .int .i64 n :: (encs (Value.int .u8) b ++ [pk]))[66]? := by simp
  rw [e, List.getElem?_cons_succ, List.getElem?_cons_succ, List.getElem?_append_right (by rw [encs_length, hb]; decide), encs_length, hb]
  rfl
theorem actC_range {w : World} {g t : Nat} {d n : Int} {b : List Int} {pk : Value} (hg : w.heap[g]? = some (.cells (actC d n b pk) t (0, 0))) : w.rangeAt g 2 (encs (Value.int .u8) b) := by
  intro j v hv
  have hj : j < (encs (Value.int .u8) b).length := (List.getElem?_eq_some_iff.1 hv).1
  rw [blk_cell hg]
  unfold actC
  have e : (.int .i64 d :: .int .i64 n :: (encs (Value.int .u8) b ++ [pk]) : List Value).toArray[2 + j]? = (.int .i64 d :: .int .i64 n :: (encs (Value.int .u8) b ++ [pk]))[2 + j]? := by simp
  rw [e, show 2 + j = j + 1 + 1 by omega, List.getElem?_cons_succ, List.getElem?_cons_succ, List.getElem?_append_left hj]
  exact hv
theorem boxagg_run {t : TypeId} {o : Oper} {a : Act} {x : Operand} {cs : Array Value} (ho : o.op = .box t x) (hx : a.eval x = .agg cs) (W : World) : (execOp a.eval o).run Try.prog W = .ok (.value (.pointer (some ⟨W.heap.size, 0, none⟩))) (W.alloc (.cells cs t (0, 0))) := by
  have h : (Instr.box t (.agg cs)).run Try.prog W = .ok (.pointer (some ⟨W.heap.size, 0, none⟩)) (W.alloc (.cells cs t)) := by rfl
  unfold execOp
  simp only [ho, hx, Sem.run_bind, h, Result.andThen_ok, Sem.run_pure]

theorem Rep.away {C : Nat} {w w' : World} {gd ga gh n ca ch : Nat} {bt : Value} {s : DS} (r : E.Rep C w gd ga gh n ca ch bt s) (h : ∀ k, k = gd ∨ k = ga ∨ k = gh ∨ bt.ownBlock = some k → w'.heap[k]? = w.heap[k]?) : E.Rep C w' gd ga gh n ca ch bt s :=
  ⟨(h gd (.inl rfl)).trans r.d, (h ga (.inr (.inl rfl))).trans r.a, (h gh (.inr (.inr (.inl rfl)))).trans r.h, AskOwn.move r.b (fun k hk => h k (.inr (.inr (.inr hk)))), r.bd, r.ba, r.bh, r.ne, r.la, r.lh, r.n0, r.ok, r.al0, r.al1, r.st0⟩
theorem RRep.away {B : Nat} {w w' : World} {gr gH cH n : Nat} {lt : Value} {s : RS} (r : RRep B w gr gH cH n lt s) (h : ∀ k, k = gr ∨ k = gH ∨ lt.ownBlock = some k → w'.heap[k]? = w.heap[k]?) : RRep B w' gr gH cH n lt s :=
  ⟨(h gr (.inl rfl)).trans r.d, (h gH (.inr (.inl rfl))).trans r.h, r.l.move (fun k hk => h k (.inr (.inr hk))), r.bd, r.bh, r.lh, r.ok, r.al0, r.al1, r.st0, r.n0⟩
theorem OpD.first {w W w3 : World} {C gd ga gh n ca ch : Nat} {bt : Value} {s : DS} (h : OpD W C gd ga gh n ca ch bt s w3) (hb : Below w.heap.size w W) (hC : C ≤ w.heap.size) : OpD w C gd ga gh n ca ch bt s w3 := by
  obtain ⟨bt', h1, h2, h3⟩ := h
  exact ⟨bt', h1, (below_of_le hC hb).trans h2, (E.Fz.below hb).trans h3⟩
theorem OpR.first {w W w3 : World} {B gr gH cH n : Nat} {lt : Value} {s : RS} (h : OpR W B gr gH cH n lt s w3) (hb : Below w.heap.size w W) (hC : B ≤ w.heap.size) : OpR w B gr gH cH n lt s w3 := by
  obtain ⟨lt', h1, h2, h3⟩ := h
  exact ⟨lt', h1, (below_of_le hC hb).trans h2, (RFx.below _ _ _ hb).trans h3⟩
theorem OpD.keep {W w3 : World} {C gd ga gh n ca ch : Nat} {bt : Value} {s t : DS} (h : OpD W C gd ga gh n ca ch bt t w3) (r : E.Rep C W gd ga gh n ca ch bt s) {g : Nat} {cs : Array Value} (hg : W.heap[g]? = some (.cells cs 29 (0, 0))) (h1 : g ≠ ga) (h2 : g ≠ gh) : w3.heap[g]? = some (.cells cs 29 (0, 0)) := by
  obtain ⟨bt', _, _, h3⟩ := h
  exact h3 g _ hg (blk_ne hg r.d (by decide)) h1 h2 (fun e => r.b.ne hg (by decide) e rfl)
theorem OpR.keep {W w3 : World} {B gr gH cH n : Nat} {lt : Value} {s t : RS} (h : OpR W B gr gH cH n lt t w3) (r : RRep B W gr gH cH n lt s) {g : Nat} {cs : Array Value} (hg : W.heap[g]? = some (.cells cs 29 (0, 0))) (h1 : g ≠ gH) : w3.heap[g]? = some (.cells cs 29 (0, 0)) := by
  obtain ⟨lt', _, _, h3⟩ := h
  exact h3 g _ hg (blk_ne hg r.d (by decide)) h1 (fun e => r.l.ne hg (by decide) e rfl)
theorem OpD.put {w w3 : World} {C gd ga gh n ca ch : Nat} {bt : Value} {s : DS} (h : OpD w C gd ga gh n ca ch bt s w3) {g : Nat} {cs X : Array Value} (hg : w3.heap[g]? = some (.cells cs 29 (0, 0))) (h1 : g ≠ ga) (h2 : g ≠ gh) (h3 : w.heap.size ≤ g) (hC : C ≤ g) : OpD w C gd ga gh n ca ch bt s (w3.setRow g X) := by
  obtain ⟨bt', r, b, f⟩ := h
  refine ⟨bt', Rep.away r (fun k hk => setRow_other _ g k X ?_), below_setRow b hC X, fun k o hk a b c d => (setRow_other _ g k X (fun e => absurd (blk_lt hk) (by omega))).trans (f k o hk a b c d)⟩
  rcases hk with rfl | rfl | rfl | hk
  · exact (blk_ne hg r.d (by decide)).symm
  · exact h1.symm
  · exact h2.symm
  · exact r.b.ne hg (by decide) hk
theorem OpR.put {w w3 : World} {B gr gH cH n : Nat} {lt : Value} {s : RS} (h : OpR w B gr gH cH n lt s w3) {g : Nat} {cs X : Array Value} (hg : w3.heap[g]? = some (.cells cs 29 (0, 0))) (h1 : g ≠ gH) (h3 : w.heap.size ≤ g) (hC : B ≤ g) : OpR w B gr gH cH n lt s (w3.setRow g X) := by
  obtain ⟨lt', r, b, f⟩ := h
  refine ⟨lt', RRep.away r (fun k hk => setRow_other _ g k X ?_), below_setRow b hC X, fun k o hk a b c => (setRow_other _ g k X (fun e => absurd (blk_lt hk) (by omega))).trans (f k o hk a b c)⟩
  rcases hk with rfl | rfl | hk
  · exact (blk_ne hg r.d (by decide)).symm
  · exact h1.symm
  · exact r.l.ne hg (by decide) hk
theorem last_len (l : List (Int × List Int)) (n : Nat) (hl : Wk l n) (j : Int) (x : List Int) (hx : x.length = 64) : ∀ k, k ≤ l.length → (lastTo l j x k).length = 64
  | 0, _ => hx
  | k + 1, hk => by
    obtain ⟨i, b, e, hi, hb⟩ := hl.at (show k < l.length by omega)
    rw [lastTo, e]
    split
    · exact hb
    · exact last_len l n hl j x hx k (by omega)
theorem dRd_len {n : Nat} {s : DS} (h : n * 64 ≤ s.asked.length) (i : Int) : (dRd n s i).1.length = 64 := by
  unfold dRd
  split
  · rfl
  · split
    · rfl
    · exact E.blkAt_len _ _ n h (by omega)
theorem dSu_len {n : Nat} {s : DS} (h : n * 64 ≤ s.held.length) (i : Int) : (dSu n s i).1.length = 64 := by
  unfold dSu
  split
  · rfl
  · exact E.blkAt_len _ _ n h (by omega)
theorem rRd_len {n : Nat} {s : RS} (h : n * 64 ≤ s.held.length) (hl : Wk s.list n) (i : Int) : (rRd n s i).1.length = 64 := by
  unfold rRd
  split
  · rfl
  · split
    · rfl
    · exact last_len _ n hl _ _ (E.blkAt_len _ _ n h (by omega)) _ (Nat.le_refl _)
theorem rSu_len {n : Nat} {s : RS} (h : n * 64 ≤ s.held.length) (i : Int) : (rSu n s i).1.length = 64 := by
  unfold rSu
  split
  · rfl
  · exact E.blkAt_len _ _ n h (by omega)

set_option maxHeartbeats 8000000 in
set_option maxRecDepth 100000 in
theorem answer0 (w : World) (C gd ga gh n ca ch : Nat) (bt : Value) (s : DS) (r : E.Rep C w gd ga gh n ca ch bt s) (hst : s.st < 4611686018427387904) (hl : s.btw.length ≤ 1000) (i : Int) (hi : i < 9223372036854775808) (b : List Int) (pk : Value) (hb : b.length = 64) :
    Calls Try.prog 25 #[.pointer (some ⟨gd, 0, none⟩), .agg (actC 0 i b (pk))] w fun e' w' => e' = .returned (.tuple #[.agg (bcells zero64), .int .i64 (dW n s i b).2]) ∧ OpD w C gd ga gh n ca ch bt (dW n s i b).1 w' := by
  have HB := Aside0.mk (Below.refl w.heap.size w)
  have SZ := Aside0.mk r.size
  have HST := Aside0.mk hst
  have HL : Aside0 ((s.btw.length + 1) * 72 ≤ 140737488355328) := ⟨by omega⟩
  have HLF : Aside0 (s.btw.length ≤ 4611686018427387904) := ⟨by omega⟩
  have HLF2 : Aside0 (s.btw.length ≤ 4611686018427387904) := ⟨by omega⟩
  have HI := Aside0.mk hi
  have LB := Aside0.mk hb
  have NXF : Aside0 (∀ g, w.heap.size ≤ g → g ≠ ga ∧ g ≠ gh) := ⟨fun g hg => ⟨fun e => by have := blk_lt r.a; omega, fun e => by have := blk_lt r.h; omega⟩⟩
  have RR := Aside0.mk r
  clear r hst hl hi hb
  go_enter Try.func25, Try.ntmps25
  go_wp2_with (first
    | ((with_reducible refine gate_dst (N := 3) rfl ?_); refine box_event ?hg (N := 3) ?hd (cs := actC 0 i b (pk)) (t := 53) ?hr ?_; (case hd => rfl); (case hg => rfl); (case hr => exact boxagg_run rfl rfl _); intro gq hg w1q hbox hb; have Gq := Aside0.mk (show w.heap.size ≤ gq from by rw [hg]; exact below_size (by repeat (first | (with_reducible first | exact HB.out | apply below_alloc | apply pw_below_drewN | apply below_drew1) | exact HB.out))); have BKq := Aside0.mk hbox; clear hbox hg; have n0_ := Aside0.mk (below_step (by repeat (first | (with_reducible first | exact HB.out | apply below_alloc | apply pw_below_drewN | apply below_drew1) | exact HB.out)) hb); clear HB; have HB := n0_; clear n0_ hb; have p0 : w1q.cell? ⟨gq, 0, none⟩ = some (.int .i64 0) := (blk_cell BKq.out 0).trans (actC_0 _ _ _ _); have p1 : w1q.cell? ⟨gq, 1, none⟩ = some (.int .i64 i) := (blk_cell BKq.out 1).trans (actC_1 _ _ _ _); have p66 : w1q.cell? ⟨gq, 66, none⟩ = some (pk) := (blk_cell BKq.out 66).trans (actC_66 _ _ _ _ LB.out))
    | ((with_reducible refine gate_dst (N := 4) rfl ?_); refine box_event ?hg (N := 4) ?hd (cs := bcells zero64) (t := 29) ?hr ?_; (case hd => rfl); (case hg => rfl); (case hr => exact alloc29_run rfl _); intro gx hg w1x hbox hb; have Gx := Aside0.mk (show w.heap.size ≤ gx from by rw [hg]; exact below_size (by repeat (first | (with_reducible first | exact HB.out | apply below_alloc | apply pw_below_drewN | apply below_drew1) | exact HB.out))); have BKx := Aside0.mk hbox; clear hbox hg; have n0_ := Aside0.mk (below_step (by repeat (first | (with_reducible first | exact HB.out | apply below_alloc | apply pw_below_drewN | apply below_drew1) | exact HB.out)) hb); (first | have n1_ := Aside0.mk (blk_below BKq.out hb) | have n1_ := Aside0.mk (blk_below (blk_drewN BKq.out _) hb) | have n1_ := Aside0.mk (blk_below (blk_drew BKq.out) hb) | have n1_ := Aside0.mk (blk_below (blk_alloc BKq.out _) hb) | have n1_ := Aside0.mk (blk_below (by first | exact BKq.out | ((with_reducible repeat (first | refine blk_drewN ?_ _ | refine blk_drew ?_ | refine blk_alloc ?_ _)); exact BKq.out)) hb)); clear HB BKq; have HB := n0_; have BKq := n1_; clear n0_ n1_ hb; have p0 : w1x.cell? ⟨gq, 0, none⟩ = some (.int .i64 0) := (blk_cell BKq.out 0).trans (actC_0 _ _ _ _); have p1 : w1x.cell? ⟨gq, 1, none⟩ = some (.int .i64 i) := (blk_cell BKq.out 1).trans (actC_1 _ _ _ _); have p66 : w1x.cell? ⟨gq, 66, none⟩ = some (pk) := (blk_cell BKq.out 66).trans (actC_66 _ _ _ _ LB.out); have NX := Aside0.mk (NXF.out gx Gx.out); have BG := Aside0.mk (Nat.le_trans SZ.out Gx.out))
    | ((with_reducible refine gate_dst (N := 15) rfl ?_); refine wpList_load_blk rfl (.tmp 14) rfl gq (2) rfl b LB.out (actC_range (by first | exact BKq.out | ((with_reducible repeat (first | refine blk_drewN ?_ _ | refine blk_drew ?_ | refine blk_alloc ?_ _)); exact BKq.out))) ?_)
    | (go_at_call 10; with_reducible refine (WriteD _ C gd ga gh n ca ch bt s (RR.out.below HB.out) HST.out HL.out i b LB.out).mono ?_; rintro e' w3 ⟨rfl, hop⟩; have OP0 := Aside0.mk (hop.first HB.out SZ.out); have k3 := Aside0.mk (hop.keep (RR.out.below HB.out) BKx.out NX.out.1 NX.out.2); clear hop BKx; have BKx := k3; clear k3)
    | (refine wpList_store_row rfl 29 (.tmp 4) (.tmp 10) rfl gx (bcells zero64) rfl (by rfl) 29 (bcells zero64) BKx.out (seal_size _ rfl) rfl (bcells_all _) ?_; have n0 := Aside0.mk (OP0.out.put (X := bcells zero64) BKx.out NX.out.1 NX.out.2 Gx.out BG.out); have n1 := Aside0.mk (setRow_heap _ _ _ (bcells zero64) _ _ BKx.out); generalize World.setRow _ _ _ = w4 at n0 n1; clear OP0 BKx; have OP0 := n0; have BKx := n1; clear n0 n1))
  refine bodyPost_ret (results_ct rfl _ _ gx 29 (bcells zero64) (0, 0) _ rfl BKx.out Try.underlying29 rfl (seal_size _ rfl)) rfl ?_
  exact ⟨rfl, OP0.out⟩

set_option maxHeartbeats 8000000 in
set_option maxRecDepth 100000 in
theorem answer1 (w : World) (C gd ga gh n ca ch : Nat) (bt : Value) (s : DS) (r : E.Rep C w gd ga gh n ca ch bt s) (hst : s.st < 4611686018427387904) (hl : s.btw.length ≤ 1000) (i : Int) (hi : i < 9223372036854775808) (b : List Int) (pk : Value) (hb : b.length = 64) :
    Calls Try.prog 25 #[.pointer (some ⟨gd, 0, none⟩), .agg (actC 1 i b (pk))] w fun e' w' => e' = .returned (.tuple #[.agg (bcells (dRd n s i).1), .int .i64 (dRd n s i).2]) ∧ OpD w C gd ga gh n ca ch bt s w' := by
  have HB := Aside0.mk (Below.refl w.heap.size w)
  have SZ := Aside0.mk r.size
  have HST := Aside0.mk hst
  have HL : Aside0 ((s.btw.length + 1) * 72 ≤ 140737488355328) := ⟨by omega⟩
  have HLF : Aside0 (s.btw.length ≤ 4611686018427387904) := ⟨by omega⟩
  have HLF2 : Aside0 (s.btw.length ≤ 4611686018427387904) := ⟨by omega⟩
  have HI := Aside0.mk hi
  have LB := Aside0.mk hb
  have NXF : Aside0 (∀ g, w.heap.size ≤ g → g ≠ ga ∧ g ≠ gh) := ⟨fun g hg => ⟨fun e => by have := blk_lt r.a; omega, fun e => by have := blk_lt r.h; omega⟩⟩
  have LX := Aside0.mk (dRd_len r.la i)
  have RR := Aside0.mk r
  clear r hst hl hi hb
  go_enter Try.func25, Try.ntmps25
  go_wp2_with (first
    | ((with_reducible refine gate_dst (N := 3) rfl ?_); refine box_event ?hg (N := 3) ?hd (cs := actC 1 i b (pk)) (t := 53) ?hr ?_; (case hd => rfl); (case hg => rfl); (case hr => exact boxagg_run rfl rfl _); intro gq hg w1q hbox hb; have Gq := Aside0.mk (show w.heap.size ≤ gq from by rw [hg]; exact below_size (by repeat (first | (with_reducible first | exact HB.out | apply below_alloc | apply pw_below_drewN | apply below_drew1) | exact HB.out))); have BKq := Aside0.mk hbox; clear hbox hg; have n0_ := Aside0.mk (below_step (by repeat (first | (with_reducible first | exact HB.out | apply below_alloc | apply pw_below_drewN | apply below_drew1) | exact HB.out)) hb); clear HB; have HB := n0_; clear n0_ hb; have p0 : w1q.cell? ⟨gq, 0, none⟩ = some (.int .i64 1) := (blk_cell BKq.out 0).trans (actC_0 _ _ _ _); have p1 : w1q.cell? ⟨gq, 1, none⟩ = some (.int .i64 i) := (blk_cell BKq.out 1).trans (actC_1 _ _ _ _); have p66 : w1q.cell? ⟨gq, 66, none⟩ = some (pk) := (blk_cell BKq.out 66).trans (actC_66 _ _ _ _ LB.out))
    | ((with_reducible refine gate_dst (N := 4) rfl ?_); refine box_event ?hg (N := 4) ?hd (cs := bcells zero64) (t := 29) ?hr ?_; (case hd => rfl); (case hg => rfl); (case hr => exact alloc29_run rfl _); intro gx hg w1x hbox hb; have Gx := Aside0.mk (show w.heap.size ≤ gx from by rw [hg]; exact below_size (by repeat (first | (with_reducible first | exact HB.out | apply below_alloc | apply pw_below_drewN | apply below_drew1) | exact HB.out))); have BKx := Aside0.mk hbox; clear hbox hg; have n0_ := Aside0.mk (below_step (by repeat (first | (with_reducible first | exact HB.out | apply below_alloc | apply pw_below_drewN | apply below_drew1) | exact HB.out)) hb); (first | have n1_ := Aside0.mk (blk_below BKq.out hb) | have n1_ := Aside0.mk (blk_below (blk_drewN BKq.out _) hb) | have n1_ := Aside0.mk (blk_below (blk_drew BKq.out) hb) | have n1_ := Aside0.mk (blk_below (blk_alloc BKq.out _) hb) | have n1_ := Aside0.mk (blk_below (by first | exact BKq.out | ((with_reducible repeat (first | refine blk_drewN ?_ _ | refine blk_drew ?_ | refine blk_alloc ?_ _)); exact BKq.out)) hb)); clear HB BKq; have HB := n0_; have BKq := n1_; clear n0_ n1_ hb; have p0 : w1x.cell? ⟨gq, 0, none⟩ = some (.int .i64 1) := (blk_cell BKq.out 0).trans (actC_0 _ _ _ _); have p1 : w1x.cell? ⟨gq, 1, none⟩ = some (.int .i64 i) := (blk_cell BKq.out 1).trans (actC_1 _ _ _ _); have p66 : w1x.cell? ⟨gq, 66, none⟩ = some (pk) := (blk_cell BKq.out 66).trans (actC_66 _ _ _ _ LB.out); have NX := Aside0.mk (NXF.out gx Gx.out); have BG := Aside0.mk (Nat.le_trans SZ.out Gx.out))
    | (go_at_call 19; with_reducible refine (ReadD _ C gd ga gh n ca ch bt s (RR.out.below HB.out) i).mono ?_; rintro e' w3 ⟨rfl, hb⟩; have OP0 := Aside0.mk ((OpD.same (RR.out.below HB.out) hb).first HB.out SZ.out); have k3 := Aside0.mk (blk_below BKx.out hb); clear hb BKx; have BKx := k3; clear k3)
    | (refine wpList_store_row rfl 29 (.tmp 4) (.tmp 23) rfl gx (bcells (dRd n s i).1) rfl (by rfl) 29 (bcells zero64) BKx.out (seal_size _ LX.out) (by rw [bcells_size, bcells_size, LX.out]; rfl) (bcells_all _) ?_; have n0 := Aside0.mk (OP0.out.put (X := bcells (dRd n s i).1) BKx.out NX.out.1 NX.out.2 Gx.out BG.out); have n1 := Aside0.mk (setRow_heap _ _ _ (bcells (dRd n s i).1) _ _ BKx.out); generalize World.setRow _ _ _ = w4 at n0 n1; clear OP0 BKx; have OP0 := n0; have BKx := n1; clear n0 n1))
  refine bodyPost_ret (results_ct rfl _ _ gx 29 (bcells (dRd n s i).1) (0, 0) _ rfl BKx.out Try.underlying29 rfl (seal_size _ LX.out)) rfl ?_
  exact ⟨rfl, OP0.out⟩

set_option maxHeartbeats 8000000 in
set_option maxRecDepth 100000 in
theorem answer2 (w : World) (C gd ga gh n ca ch : Nat) (bt : Value) (s : DS) (r : E.Rep C w gd ga gh n ca ch bt s) (hst : s.st < 4611686018427387904) (hl : s.btw.length ≤ 1000) (i : Int) (hi : i < 9223372036854775808) (b : List Int) (pk : Value) (hb : b.length = 64) :
    Calls Try.prog 25 #[.pointer (some ⟨gd, 0, none⟩), .agg (actC 2 i b (pk))] w fun e' w' => e' = .returned (.tuple #[.agg (bcells zero64), .int .i64 (dF s).2]) ∧ OpD w C gd ga gh n ca ch bt (dF s).1 w' := by
  have HB := Aside0.mk (Below.refl w.heap.size w)
  have SZ := Aside0.mk r.size
  have HST := Aside0.mk hst
  have HL : Aside0 ((s.btw.length + 1) * 72 ≤ 140737488355328) := ⟨by omega⟩
  have HLF : Aside0 (s.btw.length ≤ 4611686018427387904) := ⟨by omega⟩
  have HLF2 : Aside0 (s.btw.length ≤ 4611686018427387904) := ⟨by omega⟩
  have HI := Aside0.mk hi
  have LB := Aside0.mk hb
  have NXF : Aside0 (∀ g, w.heap.size ≤ g → g ≠ ga ∧ g ≠ gh) := ⟨fun g hg => ⟨fun e => by have := blk_lt r.a; omega, fun e => by have := blk_lt r.h; omega⟩⟩
  have RR := Aside0.mk r
  clear r hst hl hi hb
  go_enter Try.func25, Try.ntmps25
  go_wp2_with (first
    | ((with_reducible refine gate_dst (N := 3) rfl ?_); refine box_event ?hg (N := 3) ?hd (cs := actC 2 i b (pk)) (t := 53) ?hr ?_; (case hd => rfl); (case hg => rfl); (case hr => exact boxagg_run rfl rfl _); intro gq hg w1q hbox hb; have Gq := Aside0.mk (show w.heap.size ≤ gq from by rw [hg]; exact below_size (by repeat (first | (with_reducible first | exact HB.out | apply below_alloc | apply pw_below_drewN | apply below_drew1) | exact HB.out))); have BKq := Aside0.mk hbox; clear hbox hg; have n0_ := Aside0.mk (below_step (by repeat (first | (with_reducible first | exact HB.out | apply below_alloc | apply pw_below_drewN | apply below_drew1) | exact HB.out)) hb); clear HB; have HB := n0_; clear n0_ hb; have p0 : w1q.cell? ⟨gq, 0, none⟩ = some (.int .i64 2) := (blk_cell BKq.out 0).trans (actC_0 _ _ _ _); have p1 : w1q.cell? ⟨gq, 1, none⟩ = some (.int .i64 i) := (blk_cell BKq.out 1).trans (actC_1 _ _ _ _); have p66 : w1q.cell? ⟨gq, 66, none⟩ = some (pk) := (blk_cell BKq.out 66).trans (actC_66 _ _ _ _ LB.out))
    | ((with_reducible refine gate_dst (N := 4) rfl ?_); refine box_event ?hg (N := 4) ?hd (cs := bcells zero64) (t := 29) ?hr ?_; (case hd => rfl); (case hg => rfl); (case hr => exact alloc29_run rfl _); intro gx hg w1x hbox hb; have Gx := Aside0.mk (show w.heap.size ≤ gx from by rw [hg]; exact below_size (by repeat (first | (with_reducible first | exact HB.out | apply below_alloc | apply pw_below_drewN | apply below_drew1) | exact HB.out))); have BKx := Aside0.mk hbox; clear hbox hg; have n0_ := Aside0.mk (below_step (by repeat (first | (with_reducible first | exact HB.out | apply below_alloc | apply pw_below_drewN | apply below_drew1) | exact HB.out)) hb); (first | have n1_ := Aside0.mk (blk_below BKq.out hb) | have n1_ := Aside0.mk (blk_below (blk_drewN BKq.out _) hb) | have n1_ := Aside0.mk (blk_below (blk_drew BKq.out) hb) | have n1_ := Aside0.mk (blk_below (blk_alloc BKq.out _) hb) | have n1_ := Aside0.mk (blk_below (by first | exact BKq.out | ((with_reducible repeat (first | refine blk_drewN ?_ _ | refine blk_drew ?_ | refine blk_alloc ?_ _)); exact BKq.out)) hb)); clear HB BKq; have HB := n0_; have BKq := n1_; clear n0_ n1_ hb; have p0 : w1x.cell? ⟨gq, 0, none⟩ = some (.int .i64 2) := (blk_cell BKq.out 0).trans (actC_0 _ _ _ _); have p1 : w1x.cell? ⟨gq, 1, none⟩ = some (.int .i64 i) := (blk_cell BKq.out 1).trans (actC_1 _ _ _ _); have p66 : w1x.cell? ⟨gq, 66, none⟩ = some (pk) := (blk_cell BKq.out 66).trans (actC_66 _ _ _ _ LB.out); have NX := Aside0.mk (NXF.out gx Gx.out); have BG := Aside0.mk (Nat.le_trans SZ.out Gx.out))
    | (go_at_call 11; with_reducible refine (FlushD _ C gd ga gh n ca ch bt s (RR.out.below HB.out) HST.out HLF.out).mono ?_; rintro e' w3 ⟨rfl, hop⟩; have OP0 := Aside0.mk (hop.first HB.out SZ.out); have k3 := Aside0.mk (hop.keep (RR.out.below HB.out) BKx.out NX.out.1 NX.out.2); clear hop BKx; have BKx := k3; clear k3)
    | (refine wpList_store_row rfl 29 (.tmp 4) (.tmp 27) rfl gx (bcells zero64) rfl (by rfl) 29 (bcells zero64) BKx.out (seal_size _ rfl) rfl (bcells_all _) ?_; have n0 := Aside0.mk (OP0.out.put (X := bcells zero64) BKx.out NX.out.1 NX.out.2 Gx.out BG.out); have n1 := Aside0.mk (setRow_heap _ _ _ (bcells zero64) _ _ BKx.out); generalize World.setRow _ _ _ = w4 at n0 n1; clear OP0 BKx; have OP0 := n0; have BKx := n1; clear n0 n1))
  refine bodyPost_ret (results_ct rfl _ _ gx 29 (bcells zero64) (0, 0) _ rfl BKx.out Try.underlying29 rfl (seal_size _ rfl)) rfl ?_
  exact ⟨rfl, OP0.out⟩

set_option maxHeartbeats 8000000 in
set_option maxRecDepth 100000 in
theorem answer3 (w : World) (C gd ga gh n ca ch : Nat) (bt : Value) (s : DS) (r : E.Rep C w gd ga gh n ca ch bt s) (hst : s.st < 4611686018427387904) (hl : s.btw.length ≤ 1000) (i : Int) (hi : i < 9223372036854775808) (b : List Int) (pk : Value) (hb : b.length = 64) :
    Calls Try.prog 25 #[.pointer (some ⟨gd, 0, none⟩), .agg (actC 3 i b (pk))] w fun e' w' => e' = .returned (.tuple #[.agg (bcells zero64), .int .i64 (dA s i).2]) ∧ OpD w C gd ga gh n ca ch bt (dA s i).1 w' := by
  have HB := Aside0.mk (Below.refl w.heap.size w)
  have SZ := Aside0.mk r.size
  have HST := Aside0.mk hst
  have HL : Aside0 ((s.btw.length + 1) * 72 ≤ 140737488355328) := ⟨by omega⟩
  have HLF : Aside0 (s.btw.length ≤ 4611686018427387904) := ⟨by omega⟩
  have HLF2 : Aside0 (s.btw.length ≤ 4611686018427387904) := ⟨by omega⟩
  have HI := Aside0.mk hi
  have LB := Aside0.mk hb
  have NXF : Aside0 (∀ g, w.heap.size ≤ g → g ≠ ga ∧ g ≠ gh) := ⟨fun g hg => ⟨fun e => by have := blk_lt r.a; omega, fun e => by have := blk_lt r.h; omega⟩⟩
  have RR := Aside0.mk r
  clear r hst hl hi hb
  go_enter Try.func25, Try.ntmps25
  go_wp2_with (first
    | ((with_reducible refine gate_dst (N := 3) rfl ?_); refine box_event ?hg (N := 3) ?hd (cs := actC 3 i b (pk)) (t := 53) ?hr ?_; (case hd => rfl); (case hg => rfl); (case hr => exact boxagg_run rfl rfl _); intro gq hg w1q hbox hb; have Gq := Aside0.mk (show w.heap.size ≤ gq from by rw [hg]; exact below_size (by repeat (first | (with_reducible first | exact HB.out | apply below_alloc | apply pw_below_drewN | apply below_drew1) | exact HB.out))); have BKq := Aside0.mk hbox; clear hbox hg; have n0_ := Aside0.mk (below_step (by repeat (first | (with_reducible first | exact HB.out | apply below_alloc | apply pw_below_drewN | apply below_drew1) | exact HB.out)) hb); clear HB; have HB := n0_; clear n0_ hb; have p0 : w1q.cell? ⟨gq, 0, none⟩ = some (.int .i64 3) := (blk_cell BKq.out 0).trans (actC_0 _ _ _ _); have p1 : w1q.cell? ⟨gq, 1, none⟩ = some (.int .i64 i) := (blk_cell BKq.out 1).trans (actC_1 _ _ _ _); have p66 : w1q.cell? ⟨gq, 66, none⟩ = some (pk) := (blk_cell BKq.out 66).trans (actC_66 _ _ _ _ LB.out))
    | ((with_reducible refine gate_dst (N := 4) rfl ?_); refine box_event ?hg (N := 4) ?hd (cs := bcells zero64) (t := 29) ?hr ?_; (case hd => rfl); (case hg => rfl); (case hr => exact alloc29_run rfl _); intro gx hg w1x hbox hb; have Gx := Aside0.mk (show w.heap.size ≤ gx from by rw [hg]; exact below_size (by repeat (first | (with_reducible first | exact HB.out | apply below_alloc | apply pw_below_drewN | apply below_drew1) | exact HB.out))); have BKx := Aside0.mk hbox; clear hbox hg; have n0_ := Aside0.mk (below_step (by repeat (first | (with_reducible first | exact HB.out | apply below_alloc | apply pw_below_drewN | apply below_drew1) | exact HB.out)) hb); (first | have n1_ := Aside0.mk (blk_below BKq.out hb) | have n1_ := Aside0.mk (blk_below (blk_drewN BKq.out _) hb) | have n1_ := Aside0.mk (blk_below (blk_drew BKq.out) hb) | have n1_ := Aside0.mk (blk_below (blk_alloc BKq.out _) hb) | have n1_ := Aside0.mk (blk_below (by first | exact BKq.out | ((with_reducible repeat (first | refine blk_drewN ?_ _ | refine blk_drew ?_ | refine blk_alloc ?_ _)); exact BKq.out)) hb)); clear HB BKq; have HB := n0_; have BKq := n1_; clear n0_ n1_ hb; have p0 : w1x.cell? ⟨gq, 0, none⟩ = some (.int .i64 3) := (blk_cell BKq.out 0).trans (actC_0 _ _ _ _); have p1 : w1x.cell? ⟨gq, 1, none⟩ = some (.int .i64 i) := (blk_cell BKq.out 1).trans (actC_1 _ _ _ _); have p66 : w1x.cell? ⟨gq, 66, none⟩ = some (pk) := (blk_cell BKq.out 66).trans (actC_66 _ _ _ _ LB.out); have NX := Aside0.mk (NXF.out gx Gx.out); have BG := Aside0.mk (Nat.le_trans SZ.out Gx.out))
    | (go_at_call 9; with_reducible refine (ArmD _ C gd ga gh n ca ch bt s (RR.out.below HB.out) i HI.out).mono ?_; rintro e' w3 ⟨rfl, hop⟩; have OP0 := Aside0.mk (hop.first HB.out SZ.out); have k3 := Aside0.mk (hop.keep (RR.out.below HB.out) BKx.out NX.out.1 NX.out.2); clear hop BKx; have BKx := k3; clear k3)
    | (refine wpList_store_row rfl 29 (.tmp 4) (.tmp 32) rfl gx (bcells zero64) rfl (by rfl) 29 (bcells zero64) BKx.out (seal_size _ rfl) rfl (bcells_all _) ?_; have n0 := Aside0.mk (OP0.out.put (X := bcells zero64) BKx.out NX.out.1 NX.out.2 Gx.out BG.out); have n1 := Aside0.mk (setRow_heap _ _ _ (bcells zero64) _ _ BKx.out); generalize World.setRow _ _ _ = w4 at n0 n1; clear OP0 BKx; have OP0 := n0; have BKx := n1; clear n0 n1))
  refine bodyPost_ret (results_ct rfl _ _ gx 29 (bcells zero64) (0, 0) _ rfl BKx.out Try.underlying29 rfl (seal_size _ rfl)) rfl ?_
  exact ⟨rfl, OP0.out⟩

set_option maxHeartbeats 8000000 in
set_option maxRecDepth 100000 in
theorem answer4 (w : World) (C gd ga gh n ca ch : Nat) (bt : Value) (s : DS) (r : E.Rep C w gd ga gh n ca ch bt s) (hst : s.st < 4611686018427387904) (hl : s.btw.length ≤ 1000) (i : Int) (hi : i < 9223372036854775808) (b : List Int) (A : Option Addr) (c : Nat) (p : List Int) (hb : b.length = 64) (hp : ∀ w', Below C w w' → Kd.C (Kd.int .i64) w' A p.length p) :
    Calls Try.prog 25 #[.pointer (some ⟨gd, 0, none⟩), .agg (actC 4 i b (.slice A p.length c))] w fun e' w' => e' = .returned (.tuple #[.agg (bcells zero64), .int .i64 0]) ∧ OpD w C gd ga gh n ca ch bt (s.crashE n p) w' := by
  have HB := Aside0.mk (Below.refl w.heap.size w)
  have SZ := Aside0.mk r.size
  have HST := Aside0.mk hst
  have HL : Aside0 ((s.btw.length + 1) * 72 ≤ 140737488355328) := ⟨by omega⟩
  have HLF : Aside0 (s.btw.length ≤ 4611686018427387904) := ⟨by omega⟩
  have HLF2 : Aside0 (s.btw.length ≤ 4611686018427387904) := ⟨by omega⟩
  have HI := Aside0.mk hi
  have LB := Aside0.mk hb
  have NXF : Aside0 (∀ g, w.heap.size ≤ g → g ≠ ga ∧ g ≠ gh) := ⟨fun g hg => ⟨fun e => by have := blk_lt r.a; omega, fun e => by have := blk_lt r.h; omega⟩⟩
  have HP2 : Aside0 (∀ W, Below w.heap.size w W → ∀ w', Below C W w' → E.Fx gd ga gh W w' → Kd.C (Kd.int .i64) w' A p.length p) := ⟨fun W hW w' h1 _ => hp w' ((below_of_le r.size hW).trans h1)⟩
  clear hp
  have RR := Aside0.mk r
  clear r hst hl hi hb
  go_enter Try.func25, Try.ntmps25
  go_wp2_with (first
    | ((with_reducible refine gate_dst (N := 3) rfl ?_); refine box_event ?hg (N := 3) ?hd (cs := actC 4 i b (.slice A p.length c)) (t := 53) ?hr ?_; (case hd => rfl); (case hg => rfl); (case hr => exact boxagg_run rfl rfl _); intro gq hg w1q hbox hb; have Gq := Aside0.mk (show w.heap.size ≤ gq from by rw [hg]; exact below_size (by repeat (first | (with_reducible first | exact HB.out | apply below_alloc | apply pw_below_drewN | apply below_drew1) | exact HB.out))); have BKq := Aside0.mk hbox; clear hbox hg; have n0_ := Aside0.mk (below_step (by repeat (first | (with_reducible first | exact HB.out | apply below_alloc | apply pw_below_drewN | apply below_drew1) | exact HB.out)) hb); clear HB; have HB := n0_; clear n0_ hb; have p0 : w1q.cell? ⟨gq, 0, none⟩ = some (.int .i64 4) := (blk_cell BKq.out 0).trans (actC_0 _ _ _ _); have p1 : w1q.cell? ⟨gq, 1, none⟩ = some (.int .i64 i) := (blk_cell BKq.out 1).trans (actC_1 _ _ _ _); have p66 : w1q.cell? ⟨gq, 66, none⟩ = some (.slice A p.length c) := (blk_cell BKq.out 66).trans (actC_66 _ _ _ _ LB.out))
    | ((with_reducible refine gate_dst (N := 4) rfl ?_); refine box_event ?hg (N := 4) ?hd (cs := bcells zero64) (t := 29) ?hr ?_; (case hd => rfl); (case hg => rfl); (case hr => exact alloc29_run rfl _); intro gx hg w1x hbox hb; have Gx := Aside0.mk (show w.heap.size ≤ gx from by rw [hg]; exact below_size (by repeat (first | (with_reducible first | exact HB.out | apply below_alloc | apply pw_below_drewN | apply below_drew1) | exact HB.out))); have BKx := Aside0.mk hbox; clear hbox hg; have n0_ := Aside0.mk (below_step (by repeat (first | (with_reducible first | exact HB.out | apply below_alloc | apply pw_below_drewN | apply below_drew1) | exact HB.out)) hb); (first | have n1_ := Aside0.mk (blk_below BKq.out hb) | have n1_ := Aside0.mk (blk_below (blk_drewN BKq.out _) hb) | have n1_ := Aside0.mk (blk_below (blk_drew BKq.out) hb) | have n1_ := Aside0.mk (blk_below (blk_alloc BKq.out _) hb) | have n1_ := Aside0.mk (blk_below (by first | exact BKq.out | ((with_reducible repeat (first | refine blk_drewN ?_ _ | refine blk_drew ?_ | refine blk_alloc ?_ _)); exact BKq.out)) hb)); clear HB BKq; have HB := n0_; have BKq := n1_; clear n0_ n1_ hb; have p0 : w1x.cell? ⟨gq, 0, none⟩ = some (.int .i64 4) := (blk_cell BKq.out 0).trans (actC_0 _ _ _ _); have p1 : w1x.cell? ⟨gq, 1, none⟩ = some (.int .i64 i) := (blk_cell BKq.out 1).trans (actC_1 _ _ _ _); have p66 : w1x.cell? ⟨gq, 66, none⟩ = some (.slice A p.length c) := (blk_cell BKq.out 66).trans (actC_66 _ _ _ _ LB.out); have NX := Aside0.mk (NXF.out gx Gx.out); have BG := Aside0.mk (Nat.le_trans SZ.out Gx.out))
    | (go_at_call 17; with_reducible refine (CrashD _ C gd ga gh n ca ch bt s (RR.out.below HB.out) A c p HLF2.out (HP2.out _ HB.out)).mono ?_; rintro e' w3 ⟨rfl, hop⟩; have OP0 := Aside0.mk (hop.first HB.out SZ.out); have k3 := Aside0.mk (hop.keep (RR.out.below HB.out) BKx.out NX.out.1 NX.out.2); clear hop BKx; have BKx := k3; clear k3)
    | (refine wpList_store_row rfl 29 (.tmp 4) (.tmp 39) rfl gx (bcells zero64) rfl (by rfl) 29 (bcells zero64) BKx.out (seal_size _ rfl) rfl (bcells_all _) ?_; have n0 := Aside0.mk (OP0.out.put (X := bcells zero64) BKx.out NX.out.1 NX.out.2 Gx.out BG.out); have n1 := Aside0.mk (setRow_heap _ _ _ (bcells zero64) _ _ BKx.out); generalize World.setRow _ _ _ = w4 at n0 n1; clear OP0 BKx; have OP0 := n0; have BKx := n1; clear n0 n1))
  refine bodyPost_ret (results_ct rfl _ _ gx 29 (bcells zero64) (0, 0) _ rfl BKx.out Try.underlying29 rfl (seal_size _ rfl)) rfl ?_
  exact ⟨rfl, OP0.out⟩

set_option maxHeartbeats 8000000 in
set_option maxRecDepth 100000 in
theorem answer5 (w : World) (C gd ga gh n ca ch : Nat) (bt : Value) (s : DS) (r : E.Rep C w gd ga gh n ca ch bt s) (hst : s.st < 4611686018427387904) (hl : s.btw.length ≤ 1000) (dd : Int) (h0 : dd ≠ 0) (h1 : dd ≠ 1) (h2 : dd ≠ 2) (h3 : dd ≠ 3) (h4 : dd ≠ 4) (i : Int) (hi : i < 9223372036854775808) (b : List Int) (pk : Value) (hb : b.length = 64) :
    Calls Try.prog 25 #[.pointer (some ⟨gd, 0, none⟩), .agg (actC dd i b (pk))] w fun e' w' => e' = .returned (.tuple #[.agg (bcells (dSu n s i).1), .int .i64 (dSu n s i).2]) ∧ OpD w C gd ga gh n ca ch bt s w' := by
  have HB := Aside0.mk (Below.refl w.heap.size w)
  have SZ := Aside0.mk r.size
  have HST := Aside0.mk hst
  have HL : Aside0 ((s.btw.length + 1) * 72 ≤ 140737488355328) := ⟨by omega⟩
  have HLF : Aside0 (s.btw.length ≤ 4611686018427387904) := ⟨by omega⟩
  have HLF2 : Aside0 (s.btw.length ≤ 4611686018427387904) := ⟨by omega⟩
  have HI := Aside0.mk hi
  have LB := Aside0.mk hb
  have NXF : Aside0 (∀ g, w.heap.size ≤ g → g ≠ ga ∧ g ≠ gh) := ⟨fun g hg => ⟨fun e => by have := blk_lt r.a; omega, fun e => by have := blk_lt r.h; omega⟩⟩
  have LX := Aside0.mk (dSu_len r.lh i)
  have e0 : (dd == 0) = false := beq_false_of_ne h0
  have e1 : (dd == 1) = false := beq_false_of_ne h1
  have e2 : (dd == 2) = false := beq_false_of_ne h2
  have e3 : (dd == 3) = false := beq_false_of_ne h3
  have e4 : (dd == 4) = false := beq_false_of_ne h4
  clear h0 h1 h2 h3 h4
  have RR := Aside0.mk r
  clear r hst hl hi hb
  go_enter Try.func25, Try.ntmps25
  go_wp2_with (first
    | ((with_reducible refine gate_dst (N := 3) rfl ?_); refine box_event ?hg (N := 3) ?hd (cs := actC dd i b (pk)) (t := 53) ?hr ?_; (case hd => rfl); (case hg => rfl); (case hr => exact boxagg_run rfl rfl _); intro gq hg w1q hbox hb; have Gq := Aside0.mk (show w.heap.size ≤ gq from by rw [hg]; exact below_size (by repeat (first | (with_reducible first | exact HB.out | apply below_alloc | apply pw_below_drewN | apply below_drew1) | exact HB.out))); have BKq := Aside0.mk hbox; clear hbox hg; have n0_ := Aside0.mk (below_step (by repeat (first | (with_reducible first | exact HB.out | apply below_alloc | apply pw_below_drewN | apply below_drew1) | exact HB.out)) hb); clear HB; have HB := n0_; clear n0_ hb; have p0 : w1q.cell? ⟨gq, 0, none⟩ = some (.int .i64 dd) := (blk_cell BKq.out 0).trans (actC_0 _ _ _ _); have p1 : w1q.cell? ⟨gq, 1, none⟩ = some (.int .i64 i) := (blk_cell BKq.out 1).trans (actC_1 _ _ _ _); have p66 : w1q.cell? ⟨gq, 66, none⟩ = some (pk) := (blk_cell BKq.out 66).trans (actC_66 _ _ _ _ LB.out))
    | ((with_reducible refine gate_dst (N := 4) rfl ?_); refine box_event ?hg (N := 4) ?hd (cs := bcells zero64) (t := 29) ?hr ?_; (case hd => rfl); (case hg => rfl); (case hr => exact alloc29_run rfl _); intro gx hg w1x hbox hb; have Gx := Aside0.mk (show w.heap.size ≤ gx from by rw [hg]; exact below_size (by repeat (first | (with_reducible first | exact HB.out | apply below_alloc | apply pw_below_drewN | apply below_drew1) | exact HB.out))); have BKx := Aside0.mk hbox; clear hbox hg; have n0_ := Aside0.mk (below_step (by repeat (first | (with_reducible first | exact HB.out | apply below_alloc | apply pw_below_drewN | apply below_drew1) | exact HB.out)) hb); (first | have n1_ := Aside0.mk (blk_below BKq.out hb) | have n1_ := Aside0.mk (blk_below (blk_drewN BKq.out _) hb) | have n1_ := Aside0.mk (blk_below (blk_drew BKq.out) hb) | have n1_ := Aside0.mk (blk_below (blk_alloc BKq.out _) hb) | have n1_ := Aside0.mk (blk_below (by first | exact BKq.out | ((with_reducible repeat (first | refine blk_drewN ?_ _ | refine blk_drew ?_ | refine blk_alloc ?_ _)); exact BKq.out)) hb)); clear HB BKq; have HB := n0_; have BKq := n1_; clear n0_ n1_ hb; have p0 : w1x.cell? ⟨gq, 0, none⟩ = some (.int .i64 dd) := (blk_cell BKq.out 0).trans (actC_0 _ _ _ _); have p1 : w1x.cell? ⟨gq, 1, none⟩ = some (.int .i64 i) := (blk_cell BKq.out 1).trans (actC_1 _ _ _ _); have p66 : w1x.cell? ⟨gq, 66, none⟩ = some (pk) := (blk_cell BKq.out 66).trans (actC_66 _ _ _ _ LB.out); have NX := Aside0.mk (NXF.out gx Gx.out); have BG := Aside0.mk (Nat.le_trans SZ.out Gx.out))
    | (go_at_call 18; with_reducible refine (SureD _ C gd ga gh n ca ch bt s (RR.out.below HB.out) i).mono ?_; rintro e' w3 ⟨rfl, hb⟩; have OP0 := Aside0.mk ((OpD.same (RR.out.below HB.out) hb).first HB.out SZ.out); have k3 := Aside0.mk (blk_below BKx.out hb); clear hb BKx; have BKx := k3; clear k3)
    | (refine wpList_store_row rfl 29 (.tmp 4) (.tmp 48) rfl gx (bcells (dSu n s i).1) rfl (by rfl) 29 (bcells zero64) BKx.out (seal_size _ LX.out) (by rw [bcells_size, bcells_size, LX.out]; rfl) (bcells_all _) ?_; have n0 := Aside0.mk (OP0.out.put (X := bcells (dSu n s i).1) BKx.out NX.out.1 NX.out.2 Gx.out BG.out); have n1 := Aside0.mk (setRow_heap _ _ _ (bcells (dSu n s i).1) _ _ BKx.out); generalize World.setRow _ _ _ = w4 at n0 n1; clear OP0 BKx; have OP0 := n0; have BKx := n1; clear n0 n1))
  refine bodyPost_ret (results_ct rfl _ _ gx 29 (bcells (dSu n s i).1) (0, 0) _ rfl BKx.out Try.underlying29 rfl (seal_size _ LX.out)) rfl ?_
  exact ⟨rfl, OP0.out⟩

end Go.Proofs.Ytlnfdhcpnbhkdaa.GA.F
