/- Blocks in memory: loads, stores and copies of 64 bytes. No condition. -/
import Derived.Test.YtlnfdhcpnbhkdaaF4
import Derived.Laws.CopyOwn
import Derived.ChangeKeysEq
import Derived.Deep.RegionHeld3
import Derived.Deep.MidRow
import Derived.Great.Walk
import Derived.Deep.LoopGhost
import Derived.Deep.DeepCutAuto
namespace Go.Proofs.Ytlnfdhcpnbhkdaa.GA.F
open Go.RowKit Go.Proofs.YtlnfdhcpnbhkdaaW.PrintWords Go.Proofs.YtlnfdhcpnbhkdaaW.PrintLast Go.Proofs.YtlnfdhcpnbhkdaaW.PrintMore
set_option linter.unusedVariables false
set_option linter.unusedSimpArgs false

theorem ask_built76 (i : Int) (b : List Int) (hb : b.length = 64) : Try.prog.built 76 [(0, .int .i64 i), (1, .agg (bcells b))] = some (askC i b) := by
  have hsz : (Try.prog.info? 76).map (fun it => it.zero.map (·.cells.size)) = some (some 65) := by kernel_rfl
  cases hit : Try.prog.info? 76 with
  | none => rw [hit] at hsz; cases hsz
  | some it =>
    cases hz : it.zero with
    | none => rw [hit] at hsz; simp [hz] at hsz
    | some z =>
      have hz65 : z.cells.size = 65 := by rw [hit] at hsz; simpa [hz] using hsz
      unfold Program.built
      rw [hit, Try.underlying76]
      simp only [hz]
      have hp : ∀ fs, Try.prog.underlying 76 = some (.struct fs) → fs.toList.mapM (fun f => (Try.prog.info? f.type).map fun i => (f.offset, i.size)) = some [(0, 1), (1, 64)] := fun fs hf => by
        rw [Try.underlying76] at hf
        injection hf with hf
        injection hf with hf
        subst hf
        kernel_rfl
      rw [hp _ Try.underlying76]
      simp only
      have hc : (Value.agg (bcells b)).cells = bcells b := rfl
      rw [fill_step (off := 0) (size := 1) (by rfl) (by rfl) (by omega), fill_step (off := 1) (size := 64) (by rfl) (by rw [hc, bcells_size, hb]) (by rw [(Great.foldl_set 0 _ 0 z.cells).1]; omega), Instr.fill]
      congr 1
      apply Array.ext_getElem?
      intro k
      have h1 := (Great.foldl_set 1 (Value.agg (bcells b)).cells.toList 0 ((((Value.int .i64 i).cells.toList.zipIdx 0).foldl (fun cs (x : Value × Nat) => cs.setIfInBounds (0 + x.2) x.1) z.cells))).2 k
      have h2 := (Great.foldl_set 0 (Value.int .i64 i).cells.toList 0 z.cells).2 k
      have h3 := (Great.foldl_set 0 (Value.int .i64 i).cells.toList 0 z.cells).1
      rw [h1, h2, h3, hz65, hc]
      have hl : (bcells b).toList.length = 64 := by rw [Array.length_toList, bcells_size, hb]
      have hl1 : (Value.int .i64 i).cells.toList.length = 1 := rfl
      rw [hl, hl1]
      unfold askC
      have hr : (Value.int .i64 i :: encs (Value.int .u8) b).toArray[k]? = (Value.int .i64 i :: encs (Value.int .u8) b)[k]? := by simp
      rw [hr]
      clear h1 h2 h3 hr
      by_cases hk0 : k = 0
      · subst hk0
        rw [if_neg (by omega), if_pos (by omega)]
        rfl
      · obtain ⟨k, rfl⟩ := Nat.exists_eq_succ_of_ne_zero hk0
        rw [List.getElem?_cons_succ]
        by_cases hk : k < 64
        · rw [if_pos (by omega), show k.succ - (1 + 0) = k by omega]
          rfl
        · rw [if_neg (by omega), if_neg (by omega), Array.getElem?_eq_none (by omega), List.getElem?_eq_none (by rw [encs_length]; omega)]
theorem askSlice_run76 (W : World) (i : Int) (b : List Int) (hb : b.length = 64) : (Instr.buildSlice 71 1 #[(0, .agg (askC i b))]).run Try.prog W = .ok (.slice (some ⟨W.heap.size, 0, none⟩) 1 1) (W.alloc (.cells (askC i b) 76)) := by
  have hsz : (Try.prog.info? 76).map (fun it => (it.size, it.zero.map (·.cells.size))) = some (65, some 65) := by kernel_rfl
  cases hit : Try.prog.info? 76 with
  | none => rw [hit] at hsz; cases hsz
  | some it =>
    cases hz : it.zero with
    | none => rw [hit] at hsz; simp [hz] at hsz
    | some z =>
      have h65 : it.size = 65 := by rw [hit] at hsz; simp [hz] at hsz; exact hsz.1
      refine run_buildSlice W 71 76 1 _ (askC i b) it z Try.underlying71 hit hz (by rw [h65]; decide) (by rw [h65]; decide) ?_
      rw [h65]
      have h := Great.fill_whole (s := 65) (by decide) [Value.agg (askC i b)] ((Array.range (1 * 65)).map (z.cells[· % z.cells.size]!)) (fun v hv => by rw [List.mem_singleton.1 hv]; exact askC_size i b hb) (by simp)
      have e : ([Value.agg (askC i b)].flatMap fun v => v.cells.toList).toArray = askC i b := by
        simp only [List.flatMap_cons, List.flatMap_nil, List.append_nil]
        rfl
      rw [e] at h
      exact h
theorem infoAsk76 : (Try.prog.info? 76).map (fun i => (i.zero, i.size, i.bytes)) = some (some (.agg (askC 0 zero64)), 65, 72) := by kernel_rfl
theorem ask_run76 {o : Oper} {a : Act} (t1 t2 : Tmp) (i : Int) (b : List Int) (hb : b.length = 64) (ho : o.op = .build 76 #[(0, .tmp t1), (1, .tmp t2)]) (h1 : a.eval (.tmp t1) = .int .i64 i) (h2 : a.eval (.tmp t2) = .agg (bcells b)) (w : World) :
    (execOp a.eval o).run Try.prog w = .ok (.value (.agg (askC i b))) w := by
  unfold execOp
  have hm : #[((0 : Nat), Operand.tmp t1), (1, .tmp t2)].map (fun (i, x) => (i, a.eval x)) = #[(0, .int .i64 i), (1, .agg (bcells b))] := by
    rw [← h1, ← h2]
    simp [Act.eval]
  simp only [ho, hm, Sem.run_bind, run_build w 76 #[(0, .int .i64 i), (1, .agg (bcells b))] (askC i b) (ask_built76 i b hb), Result.andThen_ok, Sem.run_pure]
theorem askSlice_ev76 {ops : Array Oper} {Q : Exit → Act → World → Prop} {oi : Oper} {N : Option Tmp} {a : Act} {W : World} {K : Act → World → Prop} {i : Int} {b : List Int} {t : Tmp} (hw : Region.wanted oi (yielded ops a.tmps) = true) (hN : oi.dst = N) (hop : oi.op = .buildSlice 71 1 #[(0, .tmp t)]) (hx : a.eval (.tmp t) = .agg (askC i b)) (hb : b.length = 64)
    (h : K (a.put N (.slice (some ⟨W.heap.size, 0, none⟩) 1 1)) (W.alloc (.cells (askC i b) 76))) : if Region.wanted oi (yielded ops a.tmps) = true then Oper.wp Try.prog oi a W K Q else K (a.put N undef) W := by
  refine value_ hw hN (v := .slice (some ⟨W.heap.size, 0, none⟩) 1 1) (w1 := W.alloc (.cells (askC i b) 76)) ?_ h
  unfold execOp
  have hm : #[((0 : Nat), Operand.tmp t)].map (fun (i, x) => (i, a.eval x)) = #[(0, .agg (askC i b))] := by
    rw [← hx]
    simp [Act.eval]
  simp only [hop, hm, Sem.run_bind, askSlice_run76 W i b hb, Result.andThen_ok, Sem.run_pure]

set_option maxHeartbeats 8000000 in
set_option maxRecDepth 100000 in
theorem Arm.night (w : World) (B gr gH cH n : Nat) (lt : Value) (s : RS) (r : RRep B w gr gH cH n lt s) (i : Int) (hni : s.ni = true) : Calls Try.prog 40 #[.pointer (some ⟨gr, 0, none⟩), .int .i64 i] w fun e w' => e = .returned (.int .i64 9) ∧ w' = w := by
  obtain ⟨-, -, -, -, x4⟩ := r.x
  rw [hni] at x4
  clear hni r
  go_enter Try.func40, Try.ntmps40
  go_wp2
  go_ret
  exact ⟨rfl, rfl⟩

set_option maxHeartbeats 8000000 in
set_option maxRecDepth 100000 in
theorem Arm.neg (w : World) (B gr gH cH n : Nat) (lt : Value) (s : RS) (r : RRep B w gr gH cH n lt s) (i : Int) (hni : s.ni = false) (h0 : i < 0) : Calls Try.prog 40 #[.pointer (some ⟨gr, 0, none⟩), .int .i64 i] w fun e w' => e = .returned (.int .i64 2) ∧ w' = w := by
  obtain ⟨-, -, -, -, x4⟩ := r.x
  rw [hni] at x4
  have d1 : decide (i < 0) = true := decide_eq_true h0
  clear hni r
  go_enter Try.func40, Try.ntmps40
  go_wp2
  go_ret
  exact ⟨rfl, rfl⟩

set_option maxHeartbeats 8000000 in
set_option maxRecDepth 100000 in
theorem Arm.ok (w : World) (B gr gH cH n : Nat) (lt : Value) (s : RS) (r : RRep B w gr gH cH n lt s) (hni : s.ni = false) (i : Int) (h0 : 0 ≤ i) (h1 : i < 9223372036854775808) : Calls Try.prog 40 #[.pointer (some ⟨gr, 0, none⟩), .int .i64 i] w fun e w' => e = .returned (.int .i64 0) ∧ RRep B w' gr gH cH n lt { s with al := i } ∧ Below B w w' ∧ RFx gr gH lt w w' := by
  have RR := Aside0.mk r
  obtain ⟨-, -, x2, -, x4⟩ := r.x
  have NI := Aside0.mk hni
  have hg := r.d
  rw [hni] at x4
  have z2 := blk_frozen hg 2
  have d1 : decide (i < 0) = false := decide_eq_false (by omega)
  have H0 := Aside0.mk h0
  have H1 := Aside0.mk h1
  clear hni r hg h0 h1
  go_enter Try.func40, Try.ntmps40
  go_wp2
  go_ret
  have hd := blk_put RR.out.d 2 (.int .i64 i) (rrow_al _ _ _ _ _ _ _ _)
  have ho : ∀ k, k ≠ gr → (w.setCell ⟨gr, 2, none⟩ (.int .i64 i)).heap[k]? = w.heap[k]? := fun k hk => heap_setCell_other _ _ k _ hk
  exact ⟨rfl, RR.out.row i s.st s.ni H0.out H1.out RR.out.st0 hd ho, (Below.refl B w).setCell (show B ≤ gr from RR.out.bd) _, RFx.d _ _ _ ho⟩

theorem RFx.get {gr gH : Nat} {lt : Value} {w w' : World} (h : RFx gr gH lt w w') {k : Nat} {o : Obj} (hk : w.heap[k]? = some o) (a : k ≠ gr) (b : k ≠ gH) (c : lt.ownBlock ≠ some k) : w'.heap[k]? = some o := h k o hk a b c
theorem rings.no (w : World) (B gr gH cH n : Nat) (lt : Value) (s : RS) (r : RRep B w gr gH cH n lt s) (hni : s.ni = false) (hal : s.al ≠ 1) (hst : s.st < 4611686018427387904) : Calls Try.prog 44 #[.pointer (some ⟨gr, 0, none⟩)] w fun e w' => e = .returned (.bool false) ∧ RRep B w' gr gH cH n lt { s with al := nextAl s.al, st := s.st + 1 } ∧ Below B w w' ∧ RFx gr gH lt w w' := by
  have a0 := r.al0
  by_cases h : s.al = 0
  · refine (rings.zero w B gr gH cH n lt s r hni h hst).mono ?_
    rintro e w' ⟨h1, h2, h3, h4⟩
    rw [show nextAl s.al = 0 from if_pos (by omega)]
    exact ⟨h1, h2, h3, h4⟩
  · refine (rings.more w B gr gH cH n lt s r hni (by omega) hst).mono ?_
    rintro e w' ⟨h1, h2, h3, h4⟩
    rw [show nextAl s.al = s.al - 1 from if_neg (by omega)]
    exact ⟨h1, h2, h3, h4⟩

set_option maxHeartbeats 8000000 in
set_option maxRecDepth 100000 in
theorem Crash.calls (w : World) (B gr gH cH n : Nat) (lt : Value) (s : RS) (r : RRep B w gr gH cH n lt s) (A : Option Addr) (c : Nat) (p : List Int) (hlb : s.list.length ≤ 4611686018427387904) (hp : ∀ w', Below B w w' → RFx gr gH lt w w' → Kd.C (Kd.int .i64) w' A p.length p) :
    Calls Try.prog 41 #[.pointer (some ⟨gr, 0, none⟩), .slice A p.length c] w fun e' w' => e' = .returned (.int .i64 0) ∧ RRep B w' gr gH cH n (.slice none 0 0) { held := holdTo s.held s.list p s.list.length, list := [], al := 0, st := s.st, ni := false } ∧ Below B w w' ∧ RFx gr gH lt w w' := by
  have RR := Aside0.mk r
  have HP := Aside0.mk hp
  have HLB := Aside0.mk hlb
  clear r hp hlb
  go_enter Try.func41, Try.ntmps41
  go_upto_region 2 with (go_at_call 45; with_reducible refine (hold.calls _ B gr gH cH n lt s RR.out A c p HLB.out HP.out).mono ?_; rintro e' w2 ⟨rfl, h2, h3, h4⟩; have R2 := Aside0.mk h2; have B2 := Aside0.mk h3; have F2 := Aside0.mk h4; clear h2 h3 h4)
  obtain ⟨-, -, x2, -, x4⟩ := R2.out.x
  have z2 := blk_frozen R2.out.d 2
  have z4 := blk_frozen R2.out.d 4
  go_wp2
  go_ret
  have hd1 := blk_put R2.out.d 4 (.bool false) (rrow_ni _ _ _ _ _ _ _ _)
  have hd2 := blk_put hd1 2 (.int .i64 0) (rrow_al _ _ _ _ _ _ _ _)
  have ho2 : ∀ k, k ≠ gr → ((w2.setCell ⟨gr, 4, none⟩ (.bool false)).setCell ⟨gr, 2, none⟩ (.int .i64 0)).heap[k]? = w2.heap[k]? := fun k hk => (heap_setCell_other _ _ k _ hk).trans (heap_setCell_other _ _ k _ hk)
  exact ⟨rfl, R2.out.row 0 s.st false (Int.le_refl 0) (by decide) R2.out.st0 hd2 ho2, (B2.out.setCell (p := ⟨gr, 4, none⟩) (show B ≤ gr from R2.out.bd) _).setCell (p := ⟨gr, 2, none⟩) (show B ≤ gr from R2.out.bd) _, F2.out.trans (RFx.d _ _ _ ho2)⟩

set_option maxHeartbeats 8000000 in
set_option maxRecDepth 100000 in
theorem Write.night (w : World) (B gr gH cH n : Nat) (lt : Value) (s : RS) (r : RRep B w gr gH cH n lt s) (b : List Int) (hb : b.length = 64) (hni : s.ni = true) (i : Int) : Calls Try.prog 37 #[.pointer (some ⟨gr, 0, none⟩), .int .i64 i, .agg (bcells b)] w fun e' w' => e' = .returned (.int .i64 9) ∧ Below w.heap.size w w' := by
  have HB := Aside0.mk (Below.refl w.heap.size w)
  have BKd := Aside0.mk r.d
  have RR := Aside0.mk r
  have LB := Aside0.mk hb
  have NI := Aside0.mk hni
  rw [hni] at BKd
  clear r hb hni
  go_enter Try.func37, Try.ntmps37
  go_wp2_with (first
    | ((with_reducible refine gate_dst (N := 5) rfl ?_); refine box_event ?hg (N := 5) ?hd (cs := bcells b) (t := 29) ?hr ?_; (case hd => rfl); (case hg => rfl); (case hr => first | (go_simp; done) | (go_simp; rfl)); intro gb hg w1b hbox hb; have Gb := Aside0.mk (show w.heap.size ≤ gb from by rw [hg]; exact below_size (by repeat (first | (with_reducible first | exact HB.out | apply below_alloc | apply pw_below_drewN | apply below_drew1) | exact HB.out))); have BKb := Aside0.mk hbox; clear hbox hg; have n0_ := Aside0.mk (below_step (by repeat (first | (with_reducible first | exact HB.out | apply below_alloc | apply pw_below_drewN | apply below_drew1) | exact HB.out)) hb); (first | have n1_ := Aside0.mk (blk_below BKd.out hb) | have n1_ := Aside0.mk (blk_below (blk_drewN BKd.out _) hb) | have n1_ := Aside0.mk (blk_below (blk_drew BKd.out) hb) | have n1_ := Aside0.mk (blk_below (blk_alloc BKd.out _) hb) | have n1_ := Aside0.mk (blk_below (by first | exact BKd.out | ((with_reducible repeat (first | refine blk_drewN ?_ _ | refine blk_drew ?_ | refine blk_alloc ?_ _)); exact BKd.out)) hb)); clear HB BKd; have HB := n0_; have BKd := n1_; clear n0_ n1_ hb; have x4 : w1b.cell? ⟨gr, 4, none⟩ = some (.bool true) := (blk_cell BKd.out 4).trans rfl))
  go_ret
  exact ⟨rfl, HB.out⟩

set_option maxHeartbeats 8000000 in
set_option maxRecDepth 100000 in
theorem Write.bad (w : World) (B gr gH cH n : Nat) (lt : Value) (s : RS) (r : RRep B w gr gH cH n lt s) (b : List Int) (hb : b.length = 64) (hni : s.ni = false) (i : Int) (hi : i < 0 ∨ (n : Int) ≤ i) : Calls Try.prog 37 #[.pointer (some ⟨gr, 0, none⟩), .int .i64 i, .agg (bcells b)] w fun e' w' => e' = .returned (.int .i64 2) ∧ Below w.heap.size w w' := by
  have HB := Aside0.mk (Below.refl w.heap.size w)
  have BKd := Aside0.mk r.d
  have RR := Aside0.mk r
  have LB := Aside0.mk hb
  have NI := Aside0.mk hni
  rw [hni] at BKd
  clear r hb hni
  go_enter Try.func37, Try.ntmps37
  go_wp2_with (first
    | ((with_reducible refine gate_dst (N := 5) rfl ?_); refine box_event ?hg (N := 5) ?hd (cs := bcells b) (t := 29) ?hr ?_; (case hd => rfl); (case hg => rfl); (case hr => first | (go_simp; done) | (go_simp; rfl)); intro gb hg w1b hbox hb; have Gb := Aside0.mk (show w.heap.size ≤ gb from by rw [hg]; exact below_size (by repeat (first | (with_reducible first | exact HB.out | apply below_alloc | apply pw_below_drewN | apply below_drew1) | exact HB.out))); have BKb := Aside0.mk hbox; clear hbox hg; have n0_ := Aside0.mk (below_step (by repeat (first | (with_reducible first | exact HB.out | apply below_alloc | apply pw_below_drewN | apply below_drew1) | exact HB.out)) hb); (first | have n1_ := Aside0.mk (blk_below BKd.out hb) | have n1_ := Aside0.mk (blk_below (blk_drewN BKd.out _) hb) | have n1_ := Aside0.mk (blk_below (blk_drew BKd.out) hb) | have n1_ := Aside0.mk (blk_below (blk_alloc BKd.out _) hb) | have n1_ := Aside0.mk (blk_below (by first | exact BKd.out | ((with_reducible repeat (first | refine blk_drewN ?_ _ | refine blk_drew ?_ | refine blk_alloc ?_ _)); exact BKd.out)) hb)); clear HB BKd; have HB := n0_; have BKd := n1_; clear n0_ n1_ hb; have x4 : w1b.cell? ⟨gr, 4, none⟩ = some (.bool false) := (blk_cell BKd.out 4).trans rfl)
    | (go_at_call 43; with_reducible refine (has.bad _ gr _ n cH lt s.al s.st false BKd.out i hi).mono ?_; rintro e' w' ⟨rfl, hw⟩; subst w'))
  go_ret
  exact ⟨rfl, HB.out⟩

set_option maxHeartbeats 8000000 in
set_option maxRecDepth 100000 in
theorem Write.ring (w : World) (B gr gH cH n : Nat) (lt : Value) (s : RS) (r : RRep B w gr gH cH n lt s) (b : List Int) (hb : b.length = 64) (hni : s.ni = false) (hal : s.al = 1) (i : Nat) (hi : i < n) : Calls Try.prog 37 #[.pointer (some ⟨gr, 0, none⟩), .int .i64 (i : Int), .agg (bcells b)] w fun e' w' => e' = .returned (.int .i64 9) ∧ RRep B w' gr gH cH n lt { s with ni := true } ∧ Below B w w' ∧ RFx gr gH lt w w' := by
  have HB := Aside0.mk (Below.refl w.heap.size w)
  have BKd := Aside0.mk r.d
  have RR := Aside0.mk r
  have LB := Aside0.mk hb
  have NI := Aside0.mk hni
  rw [hni] at BKd
  clear r hb hni
  have HI := Aside0.mk hi
  have i0 : (0 : Int) ≤ (i : Int) := Int.natCast_nonneg i
  have i1 : (i : Int) < (n : Int) := by omega
  clear hi
  have HAL := Aside0.mk hal
  clear hal
  go_enter Try.func37, Try.ntmps37
  go_wp2_with (first
    | ((with_reducible refine gate_dst (N := 5) rfl ?_); refine box_event ?hg (N := 5) ?hd (cs := bcells b) (t := 29) ?hr ?_; (case hd => rfl); (case hg => rfl); (case hr => first | (go_simp; done) | (go_simp; rfl)); intro gb hg w1b hbox hb; have Gb := Aside0.mk (show w.heap.size ≤ gb from by rw [hg]; exact below_size (by repeat (first | (with_reducible first | exact HB.out | apply below_alloc | apply pw_below_drewN | apply below_drew1) | exact HB.out))); have BKb := Aside0.mk hbox; clear hbox hg; have n0_ := Aside0.mk (below_step (by repeat (first | (with_reducible first | exact HB.out | apply below_alloc | apply pw_below_drewN | apply below_drew1) | exact HB.out)) hb); (first | have n1_ := Aside0.mk (blk_below BKd.out hb) | have n1_ := Aside0.mk (blk_below (blk_drewN BKd.out _) hb) | have n1_ := Aside0.mk (blk_below (blk_drew BKd.out) hb) | have n1_ := Aside0.mk (blk_below (blk_alloc BKd.out _) hb) | have n1_ := Aside0.mk (blk_below (by first | exact BKd.out | ((with_reducible repeat (first | refine blk_drewN ?_ _ | refine blk_drew ?_ | refine blk_alloc ?_ _)); exact BKd.out)) hb)); clear HB BKd; have HB := n0_; have BKd := n1_; clear n0_ n1_ hb; have x4 : w1b.cell? ⟨gr, 4, none⟩ = some (.bool false) := (blk_cell BKd.out 4).trans rfl)
    | (go_at_call 43; with_reducible refine (has.ok _ gr _ n cH lt s.al s.st false BKd.out (i : Int) i0 i1).mono ?_; rintro e' w' ⟨rfl, hw⟩; subst w')
    | (go_at_call 44; with_reducible refine (rings.yes _ B gr gH cH n lt s (RR.out.below HB.out) NI.out HAL.out).mono ?_; rintro e' w2 ⟨rfl, h2, h3, h4⟩; have R2 := Aside0.mk h2; have B2 := Aside0.mk h3; have F2 := Aside0.mk h4; clear h2 h3 h4))
  go_ret
  exact ⟨rfl, R2.out, (below_of_le RR.out.size HB.out).trans B2.out, (RFx.below _ _ _ HB.out).trans F2.out⟩

theorem AskR.own {B : Nat} {w : World} {bt : Value} {l : List (Int × List Int)} (h : AskR B w bt l) {k : Nat} (hk : bt.ownBlock = some k) : B ≤ k ∧ k < w.heap.size ∧ ∃ cur, w.heap[k]? = some (.cells cur 76 (0, 0)) := by
  obtain ⟨_, inner, ho, _⟩ := h
  exact ⟨own_base ho k hk, own_lt ho k hk, own_typed ho k hk⟩
theorem blk_grown' {w w1 : World} {g : Nat} {o : Obj} {v : Value} (h : w.heap[g]? = some o) (hg : w.grownBy w1 v.ownBlock) (hne : v.ownBlock ≠ some g) : w1.heap[g]? = some o := blk_grown h hg (fun e => hne e.symm)
theorem AskR.ne' {B : Nat} {w : World} {v : Value} {l : List (Int × List Int)} (h : AskR B w v l) {g : Nat} {cells : Array Value} (hb : w.heap[g]? = some (.cells cells 29 (0, 0))) (hk : v.ownBlock = some g) : False := h.ne hb (by decide) hk rfl

set_option maxHeartbeats 8000000 in
set_option maxRecDepth 100000 in
theorem Write.ok (w : World) (B gr gH cH n : Nat) (lt : Value) (s : RS) (r : RRep B w gr gH cH n lt s) (b : List Int) (hb : b.length = 64) (hni : s.ni = false) (hal : s.al ≠ 1) (hst : s.st < 4611686018427387904) (hl : (s.list.length + 1) * 72 ≤ 140737488355328) (i : Nat) (hi : i < n) : Calls Try.prog 37 #[.pointer (some ⟨gr, 0, none⟩), .int .i64 (i : Int), .agg (bcells b)] w fun e' w' => e' = .returned (.int .i64 0) ∧ ∃ lt', RRep B w' gr gH cH n lt' { held := s.held, list := s.list ++ [((i : Int), b)], al := nextAl s.al, st := s.st + 1, ni := false } ∧ Below B w w' ∧ RFx gr gH lt w w' := by
  have HB := Aside0.mk (Below.refl w.heap.size w)
  have BKd := Aside0.mk r.d
  have RR := Aside0.mk r
  have LB := Aside0.mk hb
  have NI := Aside0.mk hni
  rw [hni] at BKd
  clear r hb hni
  have HI := Aside0.mk hi
  have i0 : (0 : Int) ≤ (i : Int) := Int.natCast_nonneg i
  have i1 : (i : Int) < (n : Int) := by omega
  clear hi
  have HAL := Aside0.mk hal
  have HST := Aside0.mk hst
  have HL := Aside0.mk hl
  have RN1 : Aside0 (gr < w.heap.size) := ⟨blk_lt RR.out.d⟩
  have RN2 : Aside0 (gH < w.heap.size) := ⟨blk_lt RR.out.h⟩
  have RL : Aside0 (∀ k, lt.ownBlock = some k → k < w.heap.size) := ⟨fun k hk => by exact (RR.out.l.own hk).2.1⟩
  clear hal hst hl
  go_enter Try.func37, Try.ntmps37
  go_upto_region 8 with (first
    | ((with_reducible refine gate_dst (N := 5) rfl ?_); refine box_event ?hg (N := 5) ?hd (cs := bcells b) (t := 29) ?hr ?_; (case hd => rfl); (case hg => rfl); (case hr => first | (go_simp; done) | (go_simp; rfl)); intro gb hg w1b hbox hb; have Gb := Aside0.mk (show w.heap.size ≤ gb from by rw [hg]; exact below_size (by repeat (first | (with_reducible first | exact HB.out | apply below_alloc | apply pw_below_drewN | apply below_drew1) | exact HB.out))); have BKb := Aside0.mk hbox; clear hbox hg; have n0_ := Aside0.mk (below_step (by repeat (first | (with_reducible first | exact HB.out | apply below_alloc | apply pw_below_drewN | apply below_drew1) | exact HB.out)) hb); (first | have n1_ := Aside0.mk (blk_below BKd.out hb) | have n1_ := Aside0.mk (blk_below (blk_drewN BKd.out _) hb) | have n1_ := Aside0.mk (blk_below (blk_drew BKd.out) hb) | have n1_ := Aside0.mk (blk_below (blk_alloc BKd.out _) hb) | have n1_ := Aside0.mk (blk_below (by first | exact BKd.out | ((with_reducible repeat (first | refine blk_drewN ?_ _ | refine blk_drew ?_ | refine blk_alloc ?_ _)); exact BKd.out)) hb)); clear HB BKd; have HB := n0_; have BKd := n1_; clear n0_ n1_ hb; have x4 : w1b.cell? ⟨gr, 4, none⟩ = some (.bool false) := (blk_cell BKd.out 4).trans rfl)
    | (go_at_call 43; with_reducible refine (has.ok _ gr _ n cH lt s.al s.st false BKd.out (i : Int) i0 i1).mono ?_; rintro e' w' ⟨rfl, hw⟩; subst w')
    | (go_at_call 44; with_reducible refine (rings.no _ B gr gH cH n lt s (RR.out.below HB.out) NI.out HAL.out HST.out).mono ?_; rintro e' w2 ⟨rfl, h2, h3, h4⟩; have R2 := Aside0.mk h2; have B2 := Aside0.mk ((below_of_le RR.out.size HB.out).trans h3); have F2 := Aside0.mk ((RFx.below gr gH lt HB.out).trans h4); have Kb := Aside0.mk (RFx.get h4 BKb.out (Nat.ne_of_gt (Nat.lt_of_lt_of_le RN1.out Gb.out)) (Nat.ne_of_gt (Nat.lt_of_lt_of_le RN2.out Gb.out)) (fun e => absurd (RL.out gb e) (Nat.not_lt.2 Gb.out))); clear h2 h3 h4))
  have HO := Aside0.mk (show AskR B w2.drew lt s.list from R2.out.l)
  have RD2 := Aside0.mk R2.out.d
  refine start_ (n := 13) (S := fun w' => w'.cell? ⟨gr, 1, none⟩ = some lt ∧ w'.heap[gb]? = some (.cells (bcells b) 29 (0, 0))) (ds := [12]) #[false, false, false, false, false, false, false, false, false, false, false, false, false] (by kernel_rfl) rfl rfl ⟨R2.out.x.2.1, Kb.out⟩ (fun hHeld => ?_)
  refine pure_ (i := 0) (N := some 20) (v := ?_) (a' := ?_) #[true, false, false, false, false, false, false, false, false, false, false, false, false] rfl rfl (by kernel_rfl) (fun _ _ _ h => h) (Or.inl ⟨by rfl, ?_⟩) ?_ ?_
  rotate_left
  · intro w'
    go_simp
    with_reducible rfl
  rotate_left
  · simp only [Act.put, List.setIfInBounds_toArray, List.set_cons_zero, List.set_cons_succ, i64_w, i32_w]
    rfl
  refine pure_ (i := 1) (N := some 21) (v := ?_) (a' := ?_) #[true, true, false, false, false, false, false, false, false, false, false, false, false] rfl rfl (by kernel_rfl) (fun _ _ _ h => h) (Or.inl ⟨by rfl, ?_⟩) ?_ ?_
  rotate_left
  · intro w'
    go_simp
    with_reducible rfl
  rotate_left
  · simp only [Act.put, List.setIfInBounds_toArray, List.set_cons_zero, List.set_cons_succ, i64_w, i32_w]
    rfl
  refine pure_ (i := 2) (N := some 22) (v := ?_) (a' := ?_) #[true, true, true, false, false, false, false, false, false, false, false, false, false] rfl rfl (by kernel_rfl) (fun _ _ _ h => h) (Or.inl ⟨by rfl, ?_⟩) ?_ ?_
  rotate_left
  · intro w'
    go_simp
    with_reducible rfl
  rotate_left
  · simp only [Act.put, List.setIfInBounds_toArray, List.set_cons_zero, List.set_cons_succ, i64_w, i32_w]
    rfl
  refine pure_ (i := 3) (N := some 23) (v := ?_) (a' := ?_) #[true, true, true, true, false, false, false, false, false, false, false, false, false] rfl rfl (by kernel_rfl) (fun _ _ _ h => h) (Or.inl ⟨by rfl, ?_⟩) ?_ ?_
  rotate_left
  · intro w'
    go_simp
    with_reducible rfl
  rotate_left
  · simp only [Act.put, List.setIfInBounds_toArray, List.set_cons_zero, List.set_cons_succ, i64_w, i32_w]
    rfl
  refine pure_ (i := 5) (N := some 25) (v := ?_) (a' := ?_) #[true, true, true, true, false, true, false, false, false, false, false, false, false] rfl rfl (by kernel_rfl) (fun _ _ _ h => h) (Or.inl ⟨by rfl, ?_⟩) ?_ ?_
  rotate_left
  · intro w'
    go_simp
    with_reducible rfl
  rotate_left
  · simp only [Act.put, List.setIfInBounds_toArray, List.set_cons_zero, List.set_cons_succ, i64_w, i32_w]
    rfl
  refine take_ (i := 4) (N := some 24) (v := ?_) (a' := ?_) #[true, true, true, true, true, true, false, false, false, false, false, false, false] rfl rfl (by kernel_rfl) (fun _ _ _ h => h) (Or.inl ⟨by rfl, ?_⟩) hHeld ?_ ?_
  rotate_left
  · rintro w' ⟨s0, s1⟩
    go_simp
    with_reducible rfl
  rotate_left
  · simp only [Act.put, List.setIfInBounds_toArray, List.set_cons_zero, List.set_cons_succ, i64_w, i32_w]
    rfl
  refine take_ (i := 6) (N := some 26) (v := ?_) (a' := ?_) #[true, true, true, true, true, true, true, false, false, false, false, false, false] rfl rfl (by kernel_rfl) (fun _ _ _ h => h) (Or.inl ⟨by rfl, ?_⟩) hHeld ?_ ?_
  rotate_left
  · rintro w' ⟨s0, s1⟩
    refine bl.load_run 5 gb (bcells b) ?_ ?_ w' s1 (seal_size b LB.out)
    · rfl
    · rfl
  rotate_left
  · simp only [Act.put, List.setIfInBounds_toArray, List.set_cons_zero, List.set_cons_succ, i64_w, i32_w]
    rfl
  refine pure_ (i := 7) (N := some 27) (v := ?_) (a' := ?_) #[true, true, true, true, true, true, true, true, false, false, false, false, false] rfl rfl (by kernel_rfl) (fun _ _ _ h => h) (Or.inl ⟨by rfl, ?_⟩) ?_ ?_
  rotate_left
  · intro w'
    refine ask_run76 25 26 (i : Int) b LB.out ?_ ?_ ?_ w'
    · rfl
    · rfl
    · rfl
  rotate_left
  · simp only [Act.put, List.setIfInBounds_toArray, List.set_cons_zero, List.set_cons_succ, i64_w, i32_w]
    rfl
  refine one_ (i := 8) (N := some 28) #[true, true, true, true, true, true, true, true, true, false, false, false, false] rfl rfl (by kernel_rfl) (by decide) (fun K hK => ?_)
  refine askSlice_ev76 (by rfl) rfl rfl rfl LB.out ?_
  refine hK.out _ _ ⟨(blk_cell (blk_alloc (show w2.drew.heap[_]? = _ from RD2.out) _) 1).trans rfl, (blk_alloc (show w2.drew.heap[_]? = _ from Kb.out) _)⟩ (fun hHeld => ?_)
  clear hK K
  refine norm_ (a' := ?_) ?_ ?_
  rotate_left
  · show Act.put _ (some 28) _ = _
    simp only [Act.put, List.setIfInBounds_toArray, List.set_cons_zero, List.set_cons_succ, i64_w, i32_w]
    rfl
  refine one_ (i := 9) (N := some 29) #[true, true, true, true, true, true, true, true, true, true, false, false, false] rfl rfl (by kernel_rfl) (by decide) (fun K hK => ?_)
  refine Kd.R_append_step kAsk (w0 := w) B (by rfl) (.tmp 24) (.tmp 28) 71 76 (.agg (askC 0 zero64)) 72 rfl Try.underlying71 infoAsk76 rfl (by decide) (by decide) lt s.list ((i : Int), b) (.int .i64 (i : Int) :: encs (Value.int .u8) b) (fun _ => True) (fun _ => False) rfl rfl ⟨rfl, LB.out⟩ (fun _ hk => hk.elim) (fun _ _ => trivial) HO.out (below_drew1 B2.out) (show B ≤ w2.drew.heap.size from R2.out.size) HL.out ?_
  intro v1 w5 ho hb hg hat; obtain ⟨Aq, cq, eq⟩ := Kd.R_slice ho; subst eq
  have Cd := Aside0.mk (blk_grown (g := gr) (show w2.drew.heap[gr]? = _ from R2.out.d) hg (Kd.R_ne HO.out (show w2.drew.heap[gr]? = _ from R2.out.d) (by decide)))
  have Cb := Aside0.mk (blk_grown (g := gb) (show w2.drew.heap[gb]? = _ from Kb.out) hg (Kd.R_ne HO.out (show w2.drew.heap[gb]? = _ from Kb.out) (by decide)))
  have Ch := Aside0.mk (blk_grown (g := gH) (show w2.drew.heap[gH]? = _ from R2.out.h) hg (Kd.R_ne HO.out (show w2.drew.heap[gH]? = _ from R2.out.h) (by decide)))
  have HO5 := Aside0.mk ho; have HB5 := Aside0.mk hb; have HG5 := Aside0.mk hg; clear ho hb hg hat
  have x1 : w5.cell? ⟨gr, 1, none⟩ = some lt := (blk_cell Cd.out 1).trans rfl; have z1 := blk_frozen Cd.out 1
  refine hK.out _ _ ⟨x1, Cb.out⟩ (fun hHeld => ?_)
  clear hK K
  refine norm_ (a' := ?_) ?_ ?_
  rotate_left
  · show Act.put _ (some 29) _ = _
    simp only [Act.put, List.setIfInBounds_toArray, List.set_cons_zero, List.set_cons_succ, i64_w, i32_w]
    rfl
  refine pure_ (i := 10) (N := some 30) (v := ?_) (a' := ?_) #[true, true, true, true, true, true, true, true, true, true, true, false, false] rfl rfl (by kernel_rfl) (fun _ _ _ h => h) (Or.inl ⟨by rfl, ?_⟩) ?_ ?_
  rotate_left
  · intro w'
    go_simp
    with_reducible rfl
  rotate_left
  · simp only [Act.put, List.setIfInBounds_toArray, List.set_cons_zero, List.set_cons_succ, i64_w, i32_w]
    rfl
  refine pure_ (i := 11) (N := some 31) (v := ?_) (a' := ?_) #[true, true, true, true, true, true, true, true, true, true, true, true, false] rfl rfl (by kernel_rfl) (fun _ _ _ h => h) (Or.inl ⟨by rfl, ?_⟩) ?_ ?_
  rotate_left
  · intro w'
    go_simp
    with_reducible rfl
  rotate_left
  · simp only [Act.put, List.setIfInBounds_toArray, List.set_cons_zero, List.set_cons_succ, i64_w, i32_w]
    rfl
  refine last_ (i := 12) (N := none) #[true, true, true, true, true, true, true, true, true, true, true, true, true] rfl rfl (by kernel_rfl) (by decide) (fun K hK => ?_)
  refine skip_ (w1 := ?_) (by rfl) rfl ?_ ?_
  rotate_left
  · go_simp
    rfl
  refine hK.out _ _ ?_
  clear hK K
  refine done_ (by kernel_rfl) ?_

  go_wp2
  go_ret
  have hgo := HG5.out
  have HO6 := Aside0.mk (show AskR B w5 (.slice Aq (s.list.length + 1) cq) (s.list ++ [((i : Int), b)]) from by have h := HO5.out; rw [List.length_append] at h; exact h)
  have hd := blk_put Cd.out 1 (.slice Aq (s.list.length + 1) cq) (rrow_lt _ _ _ _ _ _ _ _)
  rw [NI.out] at hd
  have ho : ∀ k, k ≠ gr → (w5.setCell ⟨gr, 1, none⟩ (.slice Aq (s.list.length + 1) cq)).heap[k]? = w5.heap[k]? := fun k hk => heap_setCell_other _ _ k _ hk
  have H1 : RRep B (w5.setCell ⟨gr, 1, none⟩ (.slice Aq (s.list.length + 1) cq)) gr gH cH n (.slice Aq (s.list.length + 1) cq) { held := s.held, list := s.list ++ [((i : Int), b)], al := nextAl s.al, st := s.st + 1, ni := false } := ⟨hd, (ho gH R2.out.ne).trans Ch.out, HO6.out.move (fun k hk => ho k (HO6.out.ne Cd.out (by decide) hk)), R2.out.bd, R2.out.bh, R2.out.lh, fun x hx => by
    rcases List.mem_append.1 hx with h | h
    · exact R2.out.ok x h
    · rw [List.mem_singleton.1 h]
      exact ⟨i0, i1, LB.out⟩, R2.out.al0, R2.out.al1, R2.out.st0, R2.out.n0⟩
  have H2 : Below B w (w5.setCell ⟨gr, 1, none⟩ (.slice Aq (s.list.length + 1) cq)) := HB5.out.setCell (show B ≤ gr from R2.out.bd) _
  have H3 : RFx gr gH lt w (w5.setCell ⟨gr, 1, none⟩ (.slice Aq (s.list.length + 1) cq)) := fun k ob hk h1 h2 h3 => (ho k h1).trans (blk_grown' (show w2.drew.heap[k]? = _ from F2.out k ob hk h1 h2 h3) hgo h3)
  first
    | exact ⟨rfl, _, H1, H2, H3⟩
    | exact ⟨rfl, ⟨_, H1⟩, H2, H3⟩
    | exact ⟨_, H1, H2, H3⟩
    | exact ⟨⟨_, H1⟩, H2, H3⟩

end Go.Proofs.Ytlnfdhcpnbhkdaa.GA.F
