/- Blocks in memory: loads, stores and copies of 64 bytes. No condition. -/
import Derived.Test.YtlnfdhcpnbhkdaaE20
import Derived.Laws.CopyOwn
import Derived.ChangeKeysEq
import Derived.Deep.RegionHeld3
import Derived.Deep.MidRow
import Derived.Great.Walk
namespace Go.Proofs.Ytlnfdhcpnbhkdaa.GA.E
open Go.RowKit Go.Proofs.YtlnfdhcpnbhkdaaW.PrintWords Go.Proofs.YtlnfdhcpnbhkdaaW.PrintLast Go.Proofs.YtlnfdhcpnbhkdaaW.PrintMore
set_option linter.unusedVariables false
set_option linter.unusedSimpArgs false


theorem drow_a (a : Value) (H : Option Addr) (n c : Nat) (bt : Value) (al st : Int) (ni : Bool) (x : Value) : (drow a H n c bt al st ni).setIfInBounds 0 x = drow x H n c bt al st ni := rfl
theorem drow_h (a : Value) (H : Option Addr) (n c : Nat) (bt : Value) (al st : Int) (ni : Bool) (H' : Option Addr) (n' c' : Nat) : (drow a H n c bt al st ni).setIfInBounds 1 (.slice H' n' c') = drow a H' n' c' bt al st ni := rfl
theorem size60 (a : Value) (H : Option Addr) (n c : Nat) (bt : Value) (al st : Int) (ni : Bool) : (Try.prog.info? 60).map (·.size) = some (drow a H n c bt al st ni).size := by
  show _ = some 6
  kernel_rfl
theorem drow_same (a : Value) (H : Option Addr) (n c : Nat) (bt : Value) (al st : Int) (ni : Bool) (a' : Value) (H' : Option Addr) (n' c' : Nat) (bt' : Value) (al' st' : Int) (ni' : Bool) : (drow a H n c bt al st ni).size = (drow a' H' n' c' bt' al' st' ni').size := rfl
theorem drow_all (A : Option Addr) (n c : Nat) (H : Option Addr) (n' c' : Nat) (A2 : Option Addr) (n2 c2 : Nat) (al st : Int) (ni : Bool) : (drow (.slice A n c) H n' c' (.slice A2 n2 c2) al st ni).all (·.oneCell') = true := by
  refine all_oneCell_toArray (cs := [.slice A n c, .slice H n' c', .slice A2 n2 c2, .int .i64 al, .int .i64 st, .bool ni]) (fun v hv => ?_)
  simp only [List.mem_cons, List.not_mem_nil, or_false] at hv
  rcases hv with rfl | rfl | rfl | rfl | rfl | rfl <;> rfl
theorem alloc60_make (W : World) : (Instr.alloc 60 true (.tuple #[])).run Try.prog W = .ok (.pointer (some ⟨W.heap.size, 0, none⟩)) (W.alloc (.cells (drow (.slice none 0 0) none 0 0 (.slice none 0 0) 0 0 false) 60)) := by kernel_rfl
theorem alloc60_run {o : Oper} {a : Act} (ho : o.op = .alloc 60) (W : World) : (execOp a.eval o).run Try.prog W = .ok (.value (.pointer (some ⟨W.heap.size, 0, none⟩))) (W.alloc (.cells (drow (.slice none 0 0) none 0 0 (.slice none 0 0) 0 0 false) 60 (0, 0))) := by
  unfold execOp
  simp only [ho, Sem.run_bind, alloc60_make, Result.andThen_ok, Sem.run_pure]
/-- a second disk in the same state -/
structure Same (n : Nat) (s t : DS) : Prop where
  asked : t.asked.take (n * 64) = s.asked.take (n * 64)
  held : t.held.take (n * 64) = s.held.take (n * 64)
  btw : t.btw = s.btw
  al : t.al = s.al
  st : t.st = s.st
  ni : t.ni = s.ni

set_option maxHeartbeats 16000000 in
set_option maxRecDepth 100000 in
theorem Copy.calls (w : World) (B gd ga gh n ca ch : Nat) (bt : Value) (s : DS) (r : Rep B w gd ga gh n ca ch bt s) (hn : n ≤ 16384) (hl : s.btw.length * 72 ≤ 140737488355328) :
    Calls Try.prog 20 #[.pointer (some ⟨gd, 0, none⟩)] w fun e' w' => ∃ gx, e' = .returned (.pointer (some ⟨gx, 0, none⟩)) ∧ (∃ ga2 gh2 ca2 ch2 bt2 s2, Rep w.heap.size w' gx ga2 gh2 n ca2 ch2 bt2 s2 ∧ Same n s s2) ∧ Below w.heap.size w w' := by
  have HB := Aside0.mk (Below.refl w.heap.size w)
  have HN := Aside0.mk hn
  have HL := Aside0.mk hl
  obtain ⟨Aq, cq, eq⟩ := Kd.R_slice r.b
  subst eq
  have RR := Aside0.mk r
  have BKd := Aside0.mk r.d
  have d1 : ((n : Int) == 0) = false := by have := r.n0; simp; omega
  clear hn hl r
  go_enter Try.func20, Try.ntmps20
  go_wp2_with (first
    | (go_at_call 26; with_reducible refine (Blocks.row _ gd _ _ n ch _ s.al s.st s.ni BKd.out).mono ?_; rintro e' w' ⟨rfl, hw⟩; subst w')
    | ((with_reducible refine gate_dst (N := 9) rfl ?_); refine wpList_load_row rfl 60 (.tmp 8) rfl gd rfl 60 (drow (.slice (some ⟨ga, 0, none⟩) n ca) (some ⟨gh, 0, none⟩) n ch (.slice Aq s.btw.length cq) s.al s.st s.ni) (0, 0) _ (by (with_reducible repeat (first | refine blk_drewN ?_ _ | refine blk_drew ?_ | refine blk_alloc ?_ _)); exact BKd.out) Try.underlying60 rfl (size60 _ _ _ _ _ _ _ _) ?_)
    | ((with_reducible refine gate_dst (N := 3) rfl ?_); refine box_event ?hg (N := 3) ?hd (cs := drow (.slice none 0 0) none 0 0 (.slice none 0 0) 0 0 false) (t := 60) ?hr ?_; (case hd => rfl); (case hg => rfl); (case hr => exact alloc60_run rfl _); intro gx hg w1x hbox hb; have Gx := Aside0.mk (show w.heap.size ≤ gx from by rw [hg]; exact below_size (by repeat (first | (with_reducible first | exact HB.out | apply below_alloc | apply pw_below_drewN | apply below_drew1) | exact HB.out))); have NEdx := Aside0.mk (show gd ≠ gx from by rw [hg]; exact Nat.ne_of_lt (blk_lt (by (with_reducible repeat (first | refine blk_drewN ?_ _ | refine blk_drew ?_ | refine blk_alloc ?_ _)); exact BKd.out))); have BKx := Aside0.mk hbox; clear hbox hg; have n0_ := Aside0.mk (below_step (by repeat (first | (with_reducible first | exact HB.out | apply below_alloc | apply pw_below_drewN | apply below_drew1) | exact HB.out)) hb); (first | have n1_ := Aside0.mk (blk_below BKd.out hb) | have n1_ := Aside0.mk (blk_below (blk_drewN BKd.out _) hb) | have n1_ := Aside0.mk (blk_below (blk_drew BKd.out) hb) | have n1_ := Aside0.mk (blk_below (blk_alloc BKd.out _) hb) | have n1_ := Aside0.mk (blk_below (by (with_reducible repeat (first | refine blk_drewN ?_ _ | refine blk_drew ?_ | refine blk_alloc ?_ _)); exact BKd.out) hb)); clear HB BKd; have HB := n0_; have BKd := n1_; clear n0_ n1_ hb)
    | (refine wpList_store_row rfl 60 (.tmp 3) (.tmp 9) rfl gx (drow (.slice (some ⟨ga, 0, none⟩) n ca) (some ⟨gh, 0, none⟩) n ch (.slice Aq s.btw.length cq) s.al s.st s.ni) rfl (by rfl) 60 (drow (.slice none 0 0) none 0 0 (.slice none 0 0) 0 0 false) (by (with_reducible repeat (first | refine blk_drewN ?_ _ | refine blk_drew ?_ | refine blk_alloc ?_ _)); exact BKx.out) (size60 _ _ _ _ _ _ _ _) (drow_same _ _ _ _ _ _ _ _ _ _ _ _ _ _ _ _) (drow_all _ _ _ _ _ _ _ _ _ _ _ _) ?_; have n0 := Aside0.mk (below_setRow (show Below w.heap.size w _ from by repeat (first | (with_reducible first | exact HB.out | apply below_alloc | apply pw_below_drewN | apply below_drew1) | exact HB.out)) (show w.heap.size ≤ gx from Gx.out) (drow (.slice (some ⟨ga, 0, none⟩) n ca) (some ⟨gh, 0, none⟩) n ch (.slice Aq s.btw.length cq) s.al s.st s.ni)); have n1 := Aside0.mk (setRow_heap _ _ _ (drow (.slice (some ⟨ga, 0, none⟩) n ca) (some ⟨gh, 0, none⟩) n ch (.slice Aq s.btw.length cq) s.al s.st s.ni) _ _ (by (with_reducible repeat (first | refine blk_drewN ?_ _ | refine blk_drew ?_ | refine blk_alloc ?_ _)); exact BKx.out)); have kd := Aside0.mk ((setRow_other _ gx gd (drow (.slice (some ⟨ga, 0, none⟩) n ca) (some ⟨gh, 0, none⟩) n ch (.slice Aq s.btw.length cq) s.al s.st s.ni) NEdx.out).trans (by (with_reducible repeat (first | refine blk_drewN ?_ _ | refine blk_drew ?_ | refine blk_alloc ?_ _)); exact BKd.out)); generalize World.setRow _ _ _ = w3 at n0 n1 kd; clear HB BKx BKd; have HB := n0; have BKx := n1; have BKd := kd; clear kd; clear n0 n1))
  refine start_ (n := 21) (S := fun w' => w'.cell? ⟨gd, 0, none⟩ = some (.slice (some ⟨ga, 0, none⟩) n ca) ∧ w'.cell? ⟨gd, 1, none⟩ = some (.slice (some ⟨gh, 0, none⟩) n ch) ∧ w'.cell? ⟨gd, 2, none⟩ = some (.slice Aq s.btw.length cq)) (ds := [16, 18, 20]) #[false, false, false, false, false, false, false, false, false, false, false, false, false, false, false, false, false, false, false, false, false] (by kernel_rfl) rfl rfl ⟨(blk_cell BKd.out 0).trans rfl, (blk_cell BKd.out 1).trans rfl, (blk_cell BKd.out 2).trans rfl⟩ (fun hHeld => ?_)
  refine pure_ (i := 0) (N := some 10) (v := ?_) (a' := ?_) #[true, false, false, false, false, false, false, false, false, false, false, false, false, false, false, false, false, false, false, false, false] rfl rfl (by kernel_rfl) (fun _ _ _ h => h) (Or.inl ⟨by rfl, ?_⟩) ?_ ?_
  rotate_left
  · intro w'
    go_simp
    with_reducible rfl
  rotate_left
  · simp only [Act.put, List.setIfInBounds_toArray, List.set_cons_zero, List.set_cons_succ, i64_w, i32_w]
    rfl
  refine pure_ (i := 1) (N := some 11) (v := ?_) (a' := ?_) #[true, true, false, false, false, false, false, false, false, false, false, false, false, false, false, false, false, false, false, false, false] rfl rfl (by kernel_rfl) (fun _ _ _ h => h) (Or.inl ⟨by rfl, ?_⟩) ?_ ?_
  rotate_left
  · intro w'
    go_simp
    with_reducible rfl
  rotate_left
  · simp only [Act.put, List.setIfInBounds_toArray, List.set_cons_zero, List.set_cons_succ, i64_w, i32_w]
    rfl
  refine pure_ (i := 2) (N := some 12) (v := ?_) (a' := ?_) #[true, true, true, false, false, false, false, false, false, false, false, false, false, false, false, false, false, false, false, false, false] rfl rfl (by kernel_rfl) (fun _ _ _ h => h) (Or.inl ⟨by rfl, ?_⟩) ?_ ?_
  rotate_left
  · intro w'
    go_simp
    with_reducible rfl
  rotate_left
  · simp only [Act.put, List.setIfInBounds_toArray, List.set_cons_zero, List.set_cons_succ, i64_w, i32_w]
    rfl
  refine pure_ (i := 5) (N := some 15) (v := ?_) (a' := ?_) #[true, true, true, false, false, true, false, false, false, false, false, false, false, false, false, false, false, false, false, false, false] rfl rfl (by kernel_rfl) (fun _ _ _ h => h) (Or.inl ⟨by rfl, ?_⟩) ?_ ?_
  rotate_left
  · intro w'
    go_simp
    with_reducible rfl
  rotate_left
  · simp only [Act.put, List.setIfInBounds_toArray, List.set_cons_zero, List.set_cons_succ, i64_w, i32_w]
    rfl
  refine pure_ (i := 6) (N := some 16) (v := ?_) (a' := ?_) #[true, true, true, false, false, true, true, false, false, false, false, false, false, false, false, false, false, false, false, false, false] rfl rfl (by kernel_rfl) (fun _ _ _ h => h) (Or.inl ⟨by rfl, ?_⟩) ?_ ?_
  rotate_left
  · intro w'
    go_simp
    with_reducible rfl
  rotate_left
  · simp only [Act.put, List.setIfInBounds_toArray, List.set_cons_zero, List.set_cons_succ, i64_w, i32_w]
    rfl
  refine pure_ (i := 7) (N := some 17) (v := ?_) (a' := ?_) #[true, true, true, false, false, true, true, true, false, false, false, false, false, false, false, false, false, false, false, false, false] rfl rfl (by kernel_rfl) (fun _ _ _ h => h) (Or.inl ⟨by rfl, ?_⟩) ?_ ?_
  rotate_left
  · intro w'
    go_simp
    with_reducible rfl
  rotate_left
  · simp only [Act.put, List.setIfInBounds_toArray, List.set_cons_zero, List.set_cons_succ, i64_w, i32_w]
    rfl
  refine pure_ (i := 10) (N := some 20) (v := ?_) (a' := ?_) #[true, true, true, false, false, true, true, true, false, false, true, false, false, false, false, false, false, false, false, false, false] rfl rfl (by kernel_rfl) (fun _ _ _ h => h) (Or.inl ⟨by rfl, ?_⟩) ?_ ?_
  rotate_left
  · intro w'
    go_simp
    with_reducible rfl
  rotate_left
  · simp only [Act.put, List.setIfInBounds_toArray, List.set_cons_zero, List.set_cons_succ, i64_w, i32_w]
    rfl
  refine pure_ (i := 11) (N := some 21) (v := ?_) (a' := ?_) #[true, true, true, false, false, true, true, true, false, false, true, true, false, false, false, false, false, false, false, false, false] rfl rfl (by kernel_rfl) (fun _ _ _ h => h) (Or.inl ⟨by rfl, ?_⟩) ?_ ?_
  rotate_left
  · intro w'
    go_simp
    with_reducible rfl
  rotate_left
  · simp only [Act.put, List.setIfInBounds_toArray, List.set_cons_zero, List.set_cons_succ, i64_w, i32_w]
    rfl
  refine pure_ (i := 12) (N := some 22) (v := ?_) (a' := ?_) #[true, true, true, false, false, true, true, true, false, false, true, true, true, false, false, false, false, false, false, false, false] rfl rfl (by kernel_rfl) (fun _ _ _ h => h) (Or.inl ⟨by rfl, ?_⟩) ?_ ?_
  rotate_left
  · intro w'
    go_simp
    with_reducible rfl
  rotate_left
  · simp only [Act.put, List.setIfInBounds_toArray, List.set_cons_zero, List.set_cons_succ, i64_w, i32_w]
    rfl
  refine take_ (i := 3) (N := some 13) (v := ?_) (a' := ?_) #[true, true, true, true, false, true, true, true, false, false, true, true, true, false, false, false, false, false, false, false, false] rfl rfl (by kernel_rfl) (fun _ _ _ h => h) (Or.inl ⟨by rfl, ?_⟩) hHeld ?_ ?_
  rotate_left
  · rintro w' ⟨s0, s1, s2⟩
    go_simp
    with_reducible rfl
  rotate_left
  · simp only [Act.put, List.setIfInBounds_toArray, List.set_cons_zero, List.set_cons_succ, i64_w, i32_w]
    rfl
  refine take_ (i := 8) (N := some 18) (v := ?_) (a' := ?_) #[true, true, true, true, false, true, true, true, true, false, true, true, true, false, false, false, false, false, false, false, false] rfl rfl (by kernel_rfl) (fun _ _ _ h => h) (Or.inl ⟨by rfl, ?_⟩) hHeld ?_ ?_
  rotate_left
  · rintro w' ⟨s0, s1, s2⟩
    go_simp
    with_reducible rfl
  rotate_left
  · simp only [Act.put, List.setIfInBounds_toArray, List.set_cons_zero, List.set_cons_succ, i64_w, i32_w]
    rfl
  refine take_ (i := 13) (N := some 23) (v := ?_) (a' := ?_) #[true, true, true, true, false, true, true, true, true, false, true, true, true, true, false, false, false, false, false, false, false] rfl rfl (by kernel_rfl) (fun _ _ _ h => h) (Or.inl ⟨by rfl, ?_⟩) hHeld ?_ ?_
  rotate_left
  · rintro w' ⟨s0, s1, s2⟩
    go_simp
    with_reducible rfl
  rotate_left
  · simp only [Act.put, List.setIfInBounds_toArray, List.set_cons_zero, List.set_cons_succ, i64_w, i32_w]
    rfl
  refine one_ (i := 4) (N := some 14) #[true, true, true, true, true, true, true, true, true, false, true, true, true, true, false, false, false, false, false, false, false] rfl rfl (by kernel_rfl) (by decide) (fun K hK => ?_)
  refine goes_ Try.func33 (by kernel_rfl) rfl #[.slice (some ⟨ga, 0, none⟩) n ca] (by rfl) rfl rfl (by simp only [List.map_toArray, List.map_cons, List.map_nil]; rfl) ?_
  with_reducible refine (cloneB.calls _ ga n ca s.asked (RR.out.below (by repeat (first | (with_reducible first | exact HB.out | apply below_alloc | apply pw_below_drewN | apply below_drew1) | exact HB.out))).a RR.out.la RR.out.n0 HN.out).mono ?_
  rintro e w4 ⟨ga2, ca2, rfl, ⟨A2, ha, la2, ta2⟩, hga, hb⟩
  have Ga := Aside0.mk (Nat.le_trans (below_size (by repeat (first | (with_reducible first | exact HB.out | apply below_alloc | apply pw_below_drewN | apply below_drew1) | exact HB.out))) hga); have BKa := Aside0.mk ha; have LA2 := Aside0.mk la2; have TA2 := Aside0.mk ta2; clear ha la2 ta2 hga; have n0_ := Aside0.mk (below_step (by repeat (first | (with_reducible first | exact HB.out | apply below_alloc | apply pw_below_drewN | apply below_drew1) | exact HB.out)) hb); (first | have n1_ := Aside0.mk (blk_below BKd.out hb) | have n1_ := Aside0.mk (blk_below (blk_drewN BKd.out _) hb) | have n1_ := Aside0.mk (blk_below (blk_drew BKd.out) hb) | have n1_ := Aside0.mk (blk_below (blk_alloc BKd.out _) hb) | have n1_ := Aside0.mk (blk_below (by (with_reducible repeat (first | refine blk_drewN ?_ _ | refine blk_drew ?_ | refine blk_alloc ?_ _)); exact BKd.out) hb)); (first | have n2_ := Aside0.mk (blk_below BKx.out hb) | have n2_ := Aside0.mk (blk_below (blk_drewN BKx.out _) hb) | have n2_ := Aside0.mk (blk_below (blk_drew BKx.out) hb) | have n2_ := Aside0.mk (blk_below (blk_alloc BKx.out _) hb) | have n2_ := Aside0.mk (blk_below (by (with_reducible repeat (first | refine blk_drewN ?_ _ | refine blk_drew ?_ | refine blk_alloc ?_ _)); exact BKx.out) hb)); clear HB BKd BKx; have HB := n0_; have BKd := n1_; have BKx := n2_; clear n0_ n1_ n2_ hb
  refine ⟨_, rfl, ?_⟩
  refine hK.out _ _ ⟨(blk_cell BKd.out 0).trans rfl, (blk_cell BKd.out 1).trans rfl, (blk_cell BKd.out 2).trans rfl⟩ (fun hHeld => ?_)
  clear hK K
  refine norm_ (a' := ?_) ?_ ?_
  rotate_left
  · show Act.put _ (some 14) _ = _
    simp only [Act.put, List.setIfInBounds_toArray, List.set_cons_zero, List.set_cons_succ, i64_w, i32_w]
    rfl
  refine one_ (i := 9) (N := some 19) #[true, true, true, true, true, true, true, true, true, true, true, true, true, true, false, false, false, false, false, false, false] rfl rfl (by kernel_rfl) (by decide) (fun K hK => ?_)
  refine goes_ Try.func33 (by kernel_rfl) rfl #[.slice (some ⟨gh, 0, none⟩) n ch] (by rfl) rfl rfl (by simp only [List.map_toArray, List.map_cons, List.map_nil]; rfl) ?_
  with_reducible refine (cloneB.calls _ gh n ch s.held (RR.out.below (by repeat (first | (with_reducible first | exact HB.out | apply below_alloc | apply pw_below_drewN | apply below_drew1) | exact HB.out))).h RR.out.lh RR.out.n0 HN.out).mono ?_
  rintro e w5 ⟨gh2, ch2, rfl, ⟨H2, hh, lh2, th2⟩, hgh, hb⟩
  have Gh := Aside0.mk (Nat.le_trans (below_size (by repeat (first | (with_reducible first | exact HB.out | apply below_alloc | apply pw_below_drewN | apply below_drew1) | exact HB.out))) hgh); have NAH := Aside0.mk (Nat.ne_of_lt (Nat.lt_of_lt_of_le (blk_lt BKa.out) hgh)); have BKh := Aside0.mk hh; have LH2 := Aside0.mk lh2; have TH2 := Aside0.mk th2; clear hh lh2 th2 hgh; have n0_ := Aside0.mk (below_step (by repeat (first | (with_reducible first | exact HB.out | apply below_alloc | apply pw_below_drewN | apply below_drew1) | exact HB.out)) hb); (first | have n1_ := Aside0.mk (blk_below BKd.out hb) | have n1_ := Aside0.mk (blk_below (blk_drewN BKd.out _) hb) | have n1_ := Aside0.mk (blk_below (blk_drew BKd.out) hb) | have n1_ := Aside0.mk (blk_below (blk_alloc BKd.out _) hb) | have n1_ := Aside0.mk (blk_below (by (with_reducible repeat (first | refine blk_drewN ?_ _ | refine blk_drew ?_ | refine blk_alloc ?_ _)); exact BKd.out) hb)); (first | have n2_ := Aside0.mk (blk_below BKx.out hb) | have n2_ := Aside0.mk (blk_below (blk_drewN BKx.out _) hb) | have n2_ := Aside0.mk (blk_below (blk_drew BKx.out) hb) | have n2_ := Aside0.mk (blk_below (blk_alloc BKx.out _) hb) | have n2_ := Aside0.mk (blk_below (by (with_reducible repeat (first | refine blk_drewN ?_ _ | refine blk_drew ?_ | refine blk_alloc ?_ _)); exact BKx.out) hb)); (first | have n3_ := Aside0.mk (blk_below BKa.out hb) | have n3_ := Aside0.mk (blk_below (blk_drewN BKa.out _) hb) | have n3_ := Aside0.mk (blk_below (blk_drew BKa.out) hb) | have n3_ := Aside0.mk (blk_below (blk_alloc BKa.out _) hb) | have n3_ := Aside0.mk (blk_below (by (with_reducible repeat (first | refine blk_drewN ?_ _ | refine blk_drew ?_ | refine blk_alloc ?_ _)); exact BKa.out) hb)); clear HB BKd BKx BKa; have HB := n0_; have BKd := n1_; have BKx := n2_; have BKa := n3_; clear n0_ n1_ n2_ n3_ hb
  refine ⟨_, rfl, ?_⟩
  refine hK.out _ _ ⟨(blk_cell BKd.out 0).trans rfl, (blk_cell BKd.out 1).trans rfl, (blk_cell BKd.out 2).trans rfl⟩ (fun hHeld => ?_)
  clear hK K
  refine norm_ (a' := ?_) ?_ ?_
  rotate_left
  · show Act.put _ (some 19) _ = _
    simp only [Act.put, List.setIfInBounds_toArray, List.set_cons_zero, List.set_cons_succ, i64_w, i32_w]
    rfl
  refine one_ (i := 14) (N := some 24) #[true, true, true, true, true, true, true, true, true, true, true, true, true, true, true, false, false, false, false, false, false] rfl rfl (by kernel_rfl) (by decide) (fun K hK => ?_)
  refine goes_ Try.func34 (by kernel_rfl) rfl #[(.slice Aq s.btw.length cq)] (by rfl) rfl rfl (by simp only [List.map_toArray, List.map_cons, List.map_nil]; rfl) ?_
  with_reducible refine (cloneA.calls _ B _ s.btw (RR.out.below (by repeat (first | (with_reducible first | exact HB.out | apply below_alloc | apply pw_below_drewN | apply below_drew1) | exact HB.out))).b HL.out).mono ?_
  rintro e w6 ⟨v2, rfl, ho, hb⟩
  have HO := Aside0.mk (show AskOwn w.heap.size w6 v2 s.btw from Kd.R_lower ho (below_size (by repeat (first | (with_reducible first | exact HB.out | apply below_alloc | apply pw_below_drewN | apply below_drew1) | exact HB.out)))); clear ho; have n0_ := Aside0.mk (below_step (by repeat (first | (with_reducible first | exact HB.out | apply below_alloc | apply pw_below_drewN | apply below_drew1) | exact HB.out)) hb); (first | have n1_ := Aside0.mk (blk_below BKd.out hb) | have n1_ := Aside0.mk (blk_below (blk_drewN BKd.out _) hb) | have n1_ := Aside0.mk (blk_below (blk_drew BKd.out) hb) | have n1_ := Aside0.mk (blk_below (blk_alloc BKd.out _) hb) | have n1_ := Aside0.mk (blk_below (by (with_reducible repeat (first | refine blk_drewN ?_ _ | refine blk_drew ?_ | refine blk_alloc ?_ _)); exact BKd.out) hb)); (first | have n2_ := Aside0.mk (blk_below BKx.out hb) | have n2_ := Aside0.mk (blk_below (blk_drewN BKx.out _) hb) | have n2_ := Aside0.mk (blk_below (blk_drew BKx.out) hb) | have n2_ := Aside0.mk (blk_below (blk_alloc BKx.out _) hb) | have n2_ := Aside0.mk (blk_below (by (with_reducible repeat (first | refine blk_drewN ?_ _ | refine blk_drew ?_ | refine blk_alloc ?_ _)); exact BKx.out) hb)); (first | have n3_ := Aside0.mk (blk_below BKa.out hb) | have n3_ := Aside0.mk (blk_below (blk_drewN BKa.out _) hb) | have n3_ := Aside0.mk (blk_below (blk_drew BKa.out) hb) | have n3_ := Aside0.mk (blk_below (blk_alloc BKa.out _) hb) | have n3_ := Aside0.mk (blk_below (by (with_reducible repeat (first | refine blk_drewN ?_ _ | refine blk_drew ?_ | refine blk_alloc ?_ _)); exact BKa.out) hb)); (first | have n4_ := Aside0.mk (blk_below BKh.out hb) | have n4_ := Aside0.mk (blk_below (blk_drewN BKh.out _) hb) | have n4_ := Aside0.mk (blk_below (blk_drew BKh.out) hb) | have n4_ := Aside0.mk (blk_below (blk_alloc BKh.out _) hb) | have n4_ := Aside0.mk (blk_below (by (with_reducible repeat (first | refine blk_drewN ?_ _ | refine blk_drew ?_ | refine blk_alloc ?_ _)); exact BKh.out) hb)); clear HB BKd BKx BKa BKh; have HB := n0_; have BKd := n1_; have BKx := n2_; have BKa := n3_; have BKh := n4_; clear n0_ n1_ n2_ n3_ n4_ hb
  obtain ⟨Aw, cw, ew⟩ := Kd.R_slice HO.out; subst ew; have BX6 := BKx
  have x0 := (blk_cell BKx.out 0).trans (show (drow (.slice (some ⟨ga, 0, none⟩) n ca) (some ⟨gh, 0, none⟩) n ch (.slice Aq s.btw.length cq) s.al s.st s.ni)[0]? = some (.slice (some ⟨ga, 0, none⟩) n ca) from rfl); have z0 := blk_frozen BKx.out 0
  refine ⟨_, rfl, ?_⟩
  refine hK.out _ _ ⟨(blk_cell BKd.out 0).trans rfl, (blk_cell BKd.out 1).trans rfl, (blk_cell BKd.out 2).trans rfl⟩ (fun hHeld => ?_)
  clear hK K
  refine norm_ (a' := ?_) ?_ ?_
  rotate_left
  · show Act.put _ (some 24) _ = _
    simp only [Act.put, List.setIfInBounds_toArray, List.set_cons_zero, List.set_cons_succ, i64_w, i32_w]
    rfl
  refine pure_ (i := 15) (N := some 25) (v := ?_) (a' := ?_) #[true, true, true, true, true, true, true, true, true, true, true, true, true, true, true, true, false, false, false, false, false] rfl rfl (by kernel_rfl) (fun _ _ _ h => h) (Or.inl ⟨by rfl, ?_⟩) ?_ ?_
  rotate_left
  · intro w'
    go_simp
    with_reducible rfl
  rotate_left
  · simp only [Act.put, List.setIfInBounds_toArray, List.set_cons_zero, List.set_cons_succ, i64_w, i32_w]
    rfl
  refine last_ (i := 16) (N := none) #[true, true, true, true, true, true, true, true, true, true, true, true, true, true, true, true, true, false, false, false, false] rfl rfl (by kernel_rfl) (by decide) (fun K hK => ?_)
  refine skip_ (w1 := ?_) (by rfl) rfl ?_ ?_
  rotate_left
  · go_simp
    rfl
  have n0 := Aside0.mk (blk_put BKx.out 0 (.slice (some ⟨ga2, 0, none⟩) n ca2) (drow_a _ _ _ _ _ _ _ _ _)); have o0 := Aside0.mk (show ∀ k, k ≠ gx → (w6.setCell ⟨gx, 0, none⟩ (.slice (some ⟨ga2, 0, none⟩) n ca2)).heap[k]? = w6.heap[k]? from fun k hk => heap_setCell_other _ _ k _ hk); have b0 := Aside0.mk (show Below w.heap.size w (w6.setCell ⟨gx, 0, none⟩ (.slice (some ⟨ga2, 0, none⟩) n ca2)) from HB.out.setCell (show w.heap.size ≤ gx from Gx.out) _); generalize w6.setCell ⟨gx, 0, none⟩ (.slice (some ⟨ga2, 0, none⟩) n ca2) = w7 at n0 o0 b0 ⊢; clear BKx HB x0 z0; have BKx := n0; have O0 := o0; have HB := b0; clear n0 o0 b0
  have x1 : w7.cell? ⟨gx, 1, none⟩ = some (.slice (some ⟨gh, 0, none⟩) n ch) := (blk_cell BKx.out 1).trans rfl; have z1 := blk_frozen BKx.out 1
  refine hK.out _ _ ?_
  clear hK K
  refine pure_ (i := 17) (N := some 26) (v := ?_) (a' := ?_) #[true, true, true, true, true, true, true, true, true, true, true, true, true, true, true, true, true, true, false, false, false] rfl rfl (by kernel_rfl) (fun _ _ _ h => h) (Or.inl ⟨by rfl, ?_⟩) ?_ ?_
  rotate_left
  · intro w'
    go_simp
    with_reducible rfl
  rotate_left
  · simp only [Act.put, List.setIfInBounds_toArray, List.set_cons_zero, List.set_cons_succ, i64_w, i32_w]
    rfl
  refine last_ (i := 18) (N := none) #[true, true, true, true, true, true, true, true, true, true, true, true, true, true, true, true, true, true, true, false, false] rfl rfl (by kernel_rfl) (by decide) (fun K hK => ?_)
  refine skip_ (w1 := ?_) (by rfl) rfl ?_ ?_
  rotate_left
  · go_simp
    rfl
  have n0 := Aside0.mk (blk_put BKx.out 1 (.slice (some ⟨gh2, 0, none⟩) n ch2) (drow_h _ _ _ _ _ _ _ _ _ _ _)); have o0 := Aside0.mk (show ∀ k, k ≠ gx → (w7.setCell ⟨gx, 1, none⟩ (.slice (some ⟨gh2, 0, none⟩) n ch2)).heap[k]? = w7.heap[k]? from fun k hk => heap_setCell_other _ _ k _ hk); have b0 := Aside0.mk (show Below w.heap.size w (w7.setCell ⟨gx, 1, none⟩ (.slice (some ⟨gh2, 0, none⟩) n ch2)) from HB.out.setCell (show w.heap.size ≤ gx from Gx.out) _); generalize w7.setCell ⟨gx, 1, none⟩ (.slice (some ⟨gh2, 0, none⟩) n ch2) = w8 at n0 o0 b0 ⊢; clear BKx HB x1 z1; have BKx := n0; have O1 := o0; have HB := b0; clear n0 o0 b0
  have x2 : w8.cell? ⟨gx, 2, none⟩ = some (.slice Aq s.btw.length cq) := (blk_cell BKx.out 2).trans rfl; have z2 := blk_frozen BKx.out 2
  refine hK.out _ _ ?_
  clear hK K
  refine pure_ (i := 19) (N := some 27) (v := ?_) (a' := ?_) #[true, true, true, true, true, true, true, true, true, true, true, true, true, true, true, true, true, true, true, true, false] rfl rfl (by kernel_rfl) (fun _ _ _ h => h) (Or.inl ⟨by rfl, ?_⟩) ?_ ?_
  rotate_left
  · intro w'
    go_simp
    with_reducible rfl
  rotate_left
  · simp only [Act.put, List.setIfInBounds_toArray, List.set_cons_zero, List.set_cons_succ, i64_w, i32_w]
    rfl
  refine last_ (i := 20) (N := none) #[true, true, true, true, true, true, true, true, true, true, true, true, true, true, true, true, true, true, true, true, true] rfl rfl (by kernel_rfl) (by decide) (fun K hK => ?_)
  refine skip_ (w1 := ?_) (by rfl) rfl ?_ ?_
  rotate_left
  · go_simp
    rfl
  have n0 := Aside0.mk (blk_put BKx.out 2 (.slice Aw s.btw.length cw) (drow_bt _ _ _ _ _ _ _ _ _)); have o0 := Aside0.mk (show ∀ k, k ≠ gx → (w8.setCell ⟨gx, 2, none⟩ (.slice Aw s.btw.length cw)).heap[k]? = w8.heap[k]? from fun k hk => heap_setCell_other _ _ k _ hk); have b0 := Aside0.mk (show Below w.heap.size w (w8.setCell ⟨gx, 2, none⟩ (.slice Aw s.btw.length cw)) from HB.out.setCell (show w.heap.size ≤ gx from Gx.out) _); generalize w8.setCell ⟨gx, 2, none⟩ (.slice Aw s.btw.length cw) = w9 at n0 o0 b0 ⊢; clear BKx HB x2 z2; have BKx := n0; have O2 := o0; have HB := b0; clear n0 o0 b0
  refine hK.out _ _ ?_
  clear hK K
  refine done_ (by kernel_rfl) ?_

  go_wp2
  go_ret
  have oo : ∀ k, k ≠ gx → w9.heap[k]? = w6.heap[k]? := fun k hk => (O2.out k hk).trans ((O1.out k hk).trans (O0.out k hk))
  have xa : ga2 ≠ gx := blk_ne BKa.out BX6.out (by decide)
  have xh : gh2 ≠ gx := blk_ne BKh.out BX6.out (by decide)
  exact ⟨gx, rfl, ⟨ga2, gh2, ca2, ch2, _, ⟨A2, H2, s.btw, s.al, s.st, s.ni⟩, ⟨BKx.out, (oo ga2 xa).trans BKa.out, (oo gh2 xh).trans BKh.out, AskOwn.move HO.out (fun k hk => oo k (AskOwn.ne HO.out BX6.out (by decide) hk)), Gx.out, Ga.out, Gh.out, NAH.out, LA2.out, LH2.out, RR.out.n0, RR.out.ok, RR.out.al0, RR.out.al1, RR.out.st0⟩, ⟨TA2.out, TH2.out, rfl, rfl, rfl, rfl⟩⟩, by repeat (first | (with_reducible first | exact HB.out | apply below_alloc | apply pw_below_drewN | apply below_drew1) | exact HB.out)⟩
end Go.Proofs.Ytlnfdhcpnbhkdaa.GA.E
