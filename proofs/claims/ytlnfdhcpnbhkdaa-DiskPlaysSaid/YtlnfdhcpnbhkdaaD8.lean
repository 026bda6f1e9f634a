/- Blocks in memory: loads, stores and copies of 64 bytes. No condition. -/
import Derived.Test.YtlnfdhcpnbhkdaaD7
import Derived.Laws.CopyOwn
import Derived.ChangeKeysEq
import Derived.Deep.RegionHeld3
import Derived.Deep.MidRow
namespace Go.Proofs.Ytlnfdhcpnbhkdaa.GA
open Go.RowKit Go.Proofs.YtlnfdhcpnbhkdaaW.PrintWords Go.Proofs.YtlnfdhcpnbhkdaaW.PrintLast Go.Proofs.YtlnfdhcpnbhkdaaW.PrintMore
set_option linter.unusedVariables false
set_option linter.unusedSimpArgs false

set_option maxHeartbeats 8000000 in
set_option maxRecDepth 100000 in
theorem Arm.ok (w : World) (B gd ga gh n : Nat) (bt : Value) (s : DS) (r : Rep B w gd ga gh n bt s) (hni : s.ni = false) (i : Int) (h0 : 0 ≤ i) (h1 : i < 9223372036854775808) :
    Calls Try.prog 9 #[.pointer (some ⟨gd, 0, none⟩), .int .i64 i] w fun e' w' => e' = .returned (.int .i64 0) ∧ Rep B w' gd ga gh n bt { s with al := i } ∧ Below B w w' ∧ Fr w w' := by
  have RR := Aside0.mk r
  have hg := r.d
  rw [hni] at hg
  have x3 : w.cell? ⟨gd, 3, none⟩ = some (.int .i64 s.al) := (blk_cell hg 3).trans rfl
  have z3 := blk_frozen hg 3
  have d1 : decide (i < 0) = false := decide_eq_false (by omega)
  have NI := Aside0.mk hni
  clear r hni
  go_enter Try.func9, Try.ntmps9
  go_wp2_with (go_at_call 27; with_reducible refine (day.ok _ gd _ _ n n bt s.al s.st hg RR.out.n0).mono ?_; rintro e' w' ⟨rfl, hw⟩; subst w')
  go_ret
  have hd := blk_put hg 3 (.int .i64 i) (drow_al _ _ _ _ _ _ _ _ i)
  have ho : ∀ k, k ≠ gd → (w.setCell ⟨gd, 3, none⟩ (.int .i64 i)).heap[k]? = w.heap[k]? := fun k hk => heap_setCell_other _ _ k _ hk
  have r2 := RR.out.row i s.st false h0 h1 RR.out.st0 hd ho
  rw [← NI.out] at r2
  exact ⟨rfl, r2, (Below.refl B w).setCell (show B ≤ gd from RR.out.bd) _, Fr.but RR.out.d (.inl rfl) ho⟩

set_option maxHeartbeats 8000000 in
set_option maxRecDepth 100000 in
theorem Flush.night (w : World) (B gd ga gh n : Nat) (bt : Value) (s : DS) (r : Rep B w gd ga gh n bt s) (hni : s.ni = true) :
    Calls Try.prog 11 #[.pointer (some ⟨gd, 0, none⟩)] w fun e' w' => e' = .returned (.int .i64 9) ∧ Below w.heap.size w w' := by
  have HB := Aside0.mk (Below.refl w.heap.size w)
  have RR := Aside0.mk r
  have NI := Aside0.mk hni
  go_enter Try.func11, Try.ntmps11
  go_wp2_with (first
    | ((with_reducible refine gate_dst (N := 1) rfl ?_); refine box_event ?hg (N := 1) ?hd (cs := #[.pointer (some ⟨gd, 0, none⟩)]) (t := 23) ?hr ?_; (case hd => rfl); (case hg => rfl); (case hr => first | (go_simp; done) | (go_simp; rfl)); intro gp hg w1p hbox hb; have Gp := Aside0.mk (show w.heap.size ≤ gp from by rw [hg]; exact below_size (by repeat (first | (with_reducible first | exact HB.out | apply below_alloc | apply pw_below_drewN | apply below_drew1) | exact HB.out))); have BKp := Aside0.mk hbox; clear hbox hg; have n0_ := Aside0.mk (below_step (by repeat (first | (with_reducible first | exact HB.out | apply below_alloc | apply pw_below_drewN | apply below_drew1) | exact HB.out)) hb); clear HB; have HB := n0_; clear n0_ hb; have xp : w1p.cell? ⟨gp, 0, none⟩ = some (.pointer (some ⟨gd, 0, none⟩)) := (blk_cell BKp.out 0).trans rfl)
    | (go_at_call 28; with_reducible refine (step.night w1p gd _ _ n n bt s.al s.st (show w1p.heap[gd]? = some (.cells (drow (.slice (some ⟨ga, 0, none⟩) n n) (some ⟨gh, 0, none⟩) n n bt s.al s.st true) 60 (0, 0)) from by have h := (RR.out.below (by repeat (first | (with_reducible first | exact HB.out | apply below_alloc | apply pw_below_drewN | apply below_drew1) | exact HB.out))).d; rw [NI.out] at h; exact h) RR.out.n0 0 _).mono ?_; rintro e' w' ⟨rfl, hw⟩; subst w'))
  go_ret
  exact ⟨rfl, by repeat (first | (with_reducible first | exact HB.out | apply below_alloc | apply pw_below_drewN | apply below_drew1) | exact HB.out)⟩

set_option maxHeartbeats 8000000 in
set_option maxRecDepth 100000 in
theorem Flush.ring (w : World) (B gd ga gh n : Nat) (bt : Value) (s : DS) (r : Rep B w gd ga gh n bt s) (hni : s.ni = false) (hal : s.al = 1) :
    Calls Try.prog 11 #[.pointer (some ⟨gd, 0, none⟩)] w fun e' w' => e' = .returned (.int .i64 9) ∧ Rep B w' gd ga gh n bt { s with al := 0, ni := true } ∧ Below B w w' ∧ Fr w w' := by
  have HB := Aside0.mk (Below.refl w.heap.size w)
  have RR := Aside0.mk r
  have NI := Aside0.mk hni
  have AL := Aside0.mk hal
  go_enter Try.func11, Try.ntmps11
  go_wp2_with (first
    | ((with_reducible refine gate_dst (N := 1) rfl ?_); refine box_event ?hg (N := 1) ?hd (cs := #[.pointer (some ⟨gd, 0, none⟩)]) (t := 23) ?hr ?_; (case hd => rfl); (case hg => rfl); (case hr => first | (go_simp; done) | (go_simp; rfl)); intro gp hg w1p hbox hb; have Gp := Aside0.mk (show w.heap.size ≤ gp from by rw [hg]; exact below_size (by repeat (first | (with_reducible first | exact HB.out | apply below_alloc | apply pw_below_drewN | apply below_drew1) | exact HB.out))); have BKp := Aside0.mk hbox; clear hbox hg; have n0_ := Aside0.mk (below_step (by repeat (first | (with_reducible first | exact HB.out | apply below_alloc | apply pw_below_drewN | apply below_drew1) | exact HB.out)) hb); clear HB; have HB := n0_; clear n0_ hb; have xp : w1p.cell? ⟨gp, 0, none⟩ = some (.pointer (some ⟨gd, 0, none⟩)) := (blk_cell BKp.out 0).trans rfl)
    | (go_at_call 28; with_reducible refine (step.ring B w1p gd _ _ n n bt s.st (show w1p.heap[gd]? = some (.cells (drow (.slice (some ⟨ga, 0, none⟩) n n) (some ⟨gh, 0, none⟩) n n bt 1 s.st false) 60 (0, 0)) from by have h := (RR.out.below (by repeat (first | (with_reducible first | exact HB.out | apply below_alloc | apply pw_below_drewN | apply below_drew1) | exact HB.out))).d; rw [NI.out, AL.out] at h; exact h) RR.out.n0 0 (Int.le_refl 0) (by have := RR.out.n0; omega) _ RR.out.bd).mono ?_; rintro e' w' ⟨rfl, hd, ho, hB⟩))
  go_ret
  exact ⟨rfl, ((RR.out.below (by repeat (first | (with_reducible first | exact HB.out | apply below_alloc | apply pw_below_drewN | apply below_drew1) | exact HB.out)))).row 0 s.st true (by decide) (by decide) RR.out.st0 hd ho, Below.trans (below_of_le RR.out.size HB.out) hB, (Fr.below HB.out).trans (Fr.but ((RR.out.below (by repeat (first | (with_reducible first | exact HB.out | apply below_alloc | apply pw_below_drewN | apply below_drew1) | exact HB.out)))).d (.inl rfl) ho)⟩

set_option maxHeartbeats 8000000 in
set_option maxRecDepth 100000 in
theorem Flush.zero (w : World) (v : Value) (hv : ZV w v) :
    Calls Try.prog 11 #[v] w fun e' w' => e' = .returned (.int .i64 1) ∧ Below w.heap.size w w' := by
  have HB := Aside0.mk (Below.refl w.heap.size w)
  have HV := Aside0.mk hv
  rcases hv with rfl | ⟨gd, rfl, hg⟩
  · go_enter Try.func11, Try.ntmps11
    go_wp2_with (first
      | ((with_reducible refine gate_dst (N := 1) rfl ?_); refine box_event ?hg (N := 1) ?hd (cs := #[.pointer none]) (t := 23) ?hr ?_; (case hd => rfl); (case hg => rfl); (case hr => first | (go_simp; done) | (go_simp; rfl)); intro gp hg w1p hbox hb; have Gp := Aside0.mk (show w.heap.size ≤ gp from by rw [hg]; exact below_size (by repeat (first | (with_reducible first | exact HB.out | apply below_alloc | apply pw_below_drewN | apply below_drew1) | exact HB.out))); have BKp := Aside0.mk hbox; clear hbox hg; have n0_ := Aside0.mk (below_step (by repeat (first | (with_reducible first | exact HB.out | apply below_alloc | apply pw_below_drewN | apply below_drew1) | exact HB.out)) hb); clear HB; have HB := n0_; clear n0_ hb; have xp : w1p.cell? ⟨gp, 0, none⟩ = some (.pointer none) := (blk_cell BKp.out 0).trans rfl)
      | (go_at_call 28; with_reducible refine (step.zero w1p _ (ZV.below HV.out (by repeat (first | (with_reducible first | exact HB.out | apply below_alloc | apply pw_below_drewN | apply below_drew1) | exact HB.out))) 0 _).mono ?_; rintro e' w' ⟨rfl, hw⟩; subst w'))
    go_ret
    exact ⟨rfl, by repeat (first | (with_reducible first | exact HB.out | apply below_alloc | apply pw_below_drewN | apply below_drew1) | exact HB.out)⟩
  · go_enter Try.func11, Try.ntmps11
    go_wp2_with (first
      | ((with_reducible refine gate_dst (N := 1) rfl ?_); refine box_event ?hg (N := 1) ?hd (cs := #[.pointer (some ⟨gd, 0, none⟩)]) (t := 23) ?hr ?_; (case hd => rfl); (case hg => rfl); (case hr => first | (go_simp; done) | (go_simp; rfl)); intro gp hg w1p hbox hb; have Gp := Aside0.mk (show w.heap.size ≤ gp from by rw [hg]; exact below_size (by repeat (first | (with_reducible first | exact HB.out | apply below_alloc | apply pw_below_drewN | apply below_drew1) | exact HB.out))); have BKp := Aside0.mk hbox; clear hbox hg; have n0_ := Aside0.mk (below_step (by repeat (first | (with_reducible first | exact HB.out | apply below_alloc | apply pw_below_drewN | apply below_drew1) | exact HB.out)) hb); clear HB; have HB := n0_; clear n0_ hb; have xp : w1p.cell? ⟨gp, 0, none⟩ = some (.pointer (some ⟨gd, 0, none⟩)) := (blk_cell BKp.out 0).trans rfl)
      | (go_at_call 28; with_reducible refine (step.zero w1p _ (ZV.below HV.out (by repeat (first | (with_reducible first | exact HB.out | apply below_alloc | apply pw_below_drewN | apply below_drew1) | exact HB.out))) 0 _).mono ?_; rintro e' w' ⟨rfl, hw⟩; subst w'))
    go_ret
    exact ⟨rfl, by repeat (first | (with_reducible first | exact HB.out | apply below_alloc | apply pw_below_drewN | apply below_drew1) | exact HB.out)⟩


theorem rep_set (c : Int) (i : Nat) (hi : i < 64) : (List.replicate i c ++ List.replicate (64 - i) 0).set i c = List.replicate (i + 1) c ++ List.replicate (64 - (i + 1)) 0 := by
  rw [List.set_append_right i c (by rw [List.length_replicate]; exact Nat.le_refl i), List.length_replicate, Nat.sub_self, List.replicate_succ', List.append_assoc, show 64 - i = (64 - (i + 1)) + 1 by omega, List.replicate_succ, List.set_cons_zero]
  rfl
theorem rep_len (c : Int) (i : Nat) (hi : i ≤ 64) : (List.replicate i c ++ List.replicate (64 - i) (0 : Int)).length = 64 := by rw [List.length_append, List.length_replicate, List.length_replicate]; omega

set_option maxHeartbeats 8000000 in
set_option maxRecDepth 100000 in
theorem all.calls (c : Int) (w : World) :
    Calls Try.prog 24 #[.int .u8 c] w fun e' w' => e' = .returned (.agg (bcells (List.replicate 64 c))) ∧ Below w.heap.size w w' := by
  have HB := Aside0.mk (Below.refl w.heap.size w)
  go_enter Try.func24, Try.ntmps24
  go_wp2_with (first
    | ((with_reducible refine gate_dst (N := 2) rfl ?_); refine box_event ?hg (N := 2) ?hd (cs := bcells zero64) (t := 29) ?hr ?_; (case hd => rfl); (case hg => rfl); (case hr => exact alloc29_run rfl _); intro gr hg w1r hbox hb; have Gr := Aside0.mk (show w.heap.size ≤ gr from by rw [hg]; exact below_size (by repeat (first | (with_reducible first | exact HB.out | apply below_alloc | apply pw_below_drewN | apply below_drew1) | exact HB.out))); have BKr := Aside0.mk hbox; clear hbox hg; have n0_ := Aside0.mk (below_step (by repeat (first | (with_reducible first | exact HB.out | apply below_alloc | apply pw_below_drewN | apply below_drew1) | exact HB.out)) hb); clear HB; have HB := n0_; clear n0_ hb)
    | ((with_reducible refine gate_dst (N := 3) rfl ?_); refine box_event ?hg (N := 3) ?hd (cs := bcells zero64) (t := 29) ?hr ?_; (case hd => rfl); (case hg => rfl); (case hr => exact alloc29_run rfl _); intro gb hg w1b hbox hb; have Gb := Aside0.mk (show w.heap.size ≤ gb from by rw [hg]; exact below_size (by repeat (first | (with_reducible first | exact HB.out | apply below_alloc | apply pw_below_drewN | apply below_drew1) | exact HB.out))); have NErb := Aside0.mk (show gr ≠ gb from by rw [hg]; exact Nat.ne_of_lt (blk_lt (by (with_reducible repeat (first | refine blk_drewN ?_ _ | refine blk_drew ?_ | refine blk_alloc ?_ _)); exact BKr.out))); have BKb := Aside0.mk hbox; clear hbox hg; have n0_ := Aside0.mk (below_step (by repeat (first | (with_reducible first | exact HB.out | apply below_alloc | apply pw_below_drewN | apply below_drew1) | exact HB.out)) hb); (first | have n1_ := Aside0.mk (blk_below BKr.out hb) | have n1_ := Aside0.mk (blk_below (blk_drewN BKr.out _) hb) | have n1_ := Aside0.mk (blk_below (blk_drew BKr.out) hb) | have n1_ := Aside0.mk (blk_below (blk_alloc BKr.out _) hb) | have n1_ := Aside0.mk (blk_below (by (with_reducible repeat (first | refine blk_drewN ?_ _ | refine blk_drew ?_ | refine blk_alloc ?_ _)); exact BKr.out) hb)); clear HB BKr; have HB := n0_; have BKr := n1_; clear n0_ n1_ hb))
  go_loopw [4] (fun v4 w' => ∃ i : Nat, i ≤ 64 ∧ v4 = .int .i64 i ∧ Aside0 (w'.heap[gb]? = some (.cells (bcells (List.replicate i c ++ List.replicate (64 - i) 0)) 29 (0, 0))) ∧ Aside0 (w'.heap[gr]? = some (.cells (bcells zero64) 29 (0, 0))) ∧ Aside0 (Below w.heap.size w w')) (fun v4 _ => 64 - (intOf v4).toNat)
  case atStart => exact ⟨0, by decide, rfl, BKb, BKr, HB⟩
  case round =>
    clear BKb BKr HB
    obtain ⟨i, hi, rfl, BKb, BKr, HB⟩ := hrel
    by_cases hlt : i < 64
    · have i1 : (0 : Int) ≤ (i : Int) := Int.natCast_nonneg i
      have i2 : (i : Int) < 64 := by omega
      have i3 : wrap64 ((i : Int) + 1) = (i : Int) + 1 := by unfold wrap64; omega
      have x0 := (blk_cell BKb.out i).trans (bcells_get _ i (by rw [rep_len c i hi]; exact hlt))
      have z0 := blk_frozen BKb.out i
      have E1 : (bcells (List.replicate i c ++ List.replicate (64 - i) 0)).setIfInBounds i (.int .u8 c) = bcells (List.replicate (i + 1) c ++ List.replicate (64 - (i + 1)) 0) := by rw [bcells_set, rep_set c i hlt]
      go_wp2
      exact ⟨⟨i + 1, hlt, by first | rfl | (rw [Int.natCast_add]; rfl), Aside0.mk (blk_put BKb.out i _ E1), Aside0.mk ((heap_setCell_other _ _ gr _ (show gr ≠ gb from NErb.out)).trans BKr.out), Aside0.mk (HB.out.setCell (show w.heap.size ≤ gb from Gb.out) _)⟩, by show 64 - (i + 1) < 64 - i; omega⟩
    · have hin : i = 64 := by omega
      subst hin
      have e64 : List.replicate 64 c ++ List.replicate (64 - 64) (0 : Int) = List.replicate 64 c := by simp
      rw [e64] at BKb
      clear e64
      go_wp2_with (first
        | ((with_reducible refine gate_dst (N := 12) rfl ?_); refine wpList_load_row rfl 29 (.tmp 3) rfl gb rfl 29 (bcells (List.replicate 64 c)) (0, 0) _ (by (with_reducible repeat (first | refine blk_drewN ?_ _ | refine blk_drew ?_ | refine blk_alloc ?_ _)); exact BKb.out) Try.underlying29 rfl (seal_size _ (show (List.replicate 64 c).length = 64 from List.length_replicate)) ?_)
        | (refine wpList_store_row rfl 29 (.tmp 2) (.tmp 12) rfl gr (bcells (List.replicate 64 c)) rfl (by rfl) 29 (bcells zero64) (by (with_reducible repeat (first | refine blk_drewN ?_ _ | refine blk_drew ?_ | refine blk_alloc ?_ _)); exact BKr.out) (seal_size _ (show (List.replicate 64 c).length = 64 from List.length_replicate)) (by rw [bcells_size, bcells_size, (show (List.replicate 64 c).length = 64 from List.length_replicate)]; rfl) (bcells_all _) ?_; have n0 := Aside0.mk (below_setRow (show Below w.heap.size w _ from by repeat (first | (with_reducible first | exact HB.out | apply below_alloc | apply pw_below_drewN | apply below_drew1) | exact HB.out)) (show w.heap.size ≤ gr from Gr.out) (bcells (List.replicate 64 c))); have n1 := Aside0.mk (setRow_heap _ _ _ (bcells (List.replicate 64 c)) _ _ (by (with_reducible repeat (first | refine blk_drewN ?_ _ | refine blk_drew ?_ | refine blk_alloc ?_ _)); exact BKr.out)); generalize World.setRow _ _ _ = w3 at n0 n1; clear HB BKr; have HB := n0; have BKr := n1; clear n0 n1))
      refine bodyPost_ret (results_cell_row rfl _ _ gr 29 (bcells _) (0, 0) _ rfl BKr.out Try.underlying29 rfl (seal_size _ (show (List.replicate 64 c).length = 64 from List.length_replicate))) rfl ?_
      exact ⟨rfl, by repeat (first | (with_reducible first | exact HB.out | apply below_alloc | apply pw_below_drewN | apply below_drew1) | exact HB.out)⟩
end Go.Proofs.Ytlnfdhcpnbhkdaa.GA
