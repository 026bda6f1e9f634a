/- Blocks in memory: loads, stores and copies of 64 bytes. No condition. -/
import Derived.Test.YtlnfdhcpnbhkdaaE3
import Derived.Laws.CopyOwn
import Derived.ChangeKeysEq
import Derived.Deep.RegionHeld3
import Derived.Deep.MidRow
import Derived.Great.Walk
namespace Go.Proofs.Ytlnfdhcpnbhkdaa.GA.E
open Go.RowKit Go.Proofs.YtlnfdhcpnbhkdaaW.PrintWords Go.Proofs.YtlnfdhcpnbhkdaaW.PrintLast Go.Proofs.YtlnfdhcpnbhkdaaW.PrintMore
set_option linter.unusedVariables false
set_option linter.unusedSimpArgs false

theorem Rep.size {B : Nat} {w : World} {gd ga gh n ca ch : Nat} {bt : Value} {s : DS} (r : Rep B w gd ga gh n ca ch bt s) : B ≤ w.heap.size := Nat.le_of_lt (Nat.lt_of_le_of_lt r.ba (blk_lt r.a))
theorem Write.step (B : Nat) (w : World) (gd ga gh n ca ch : Nat) (bt : Value) (s : DS) (r : Rep B w gd ga gh n ca ch bt s) (hni : s.ni = false) (hal : s.al ≠ 1) (hst : s.st < 4611686018427387904) (gb gp gi : Nat) (b : List Int) (hb : b.length = 64) (i : Nat) (hi : i < n)
    (kb : w.heap[gb]? = some (.cells (bcells b) 29 (0, 0))) (kp : w.heap[gp]? = some (.cells #[.pointer (some ⟨gd, 0, none⟩)] 23 (0, 0))) (ki : w.heap[gi]? = some (.cells #[.int .i64 (i : Int)] 3 (0, 0))) (hab : ga ≠ gb) (hl : (s.btw.length + 1) * 72 ≤ 140737488355328) :
    Calls Try.prog 28 #[.pointer (some ⟨gd, 0, none⟩), .int .i64 (i : Int), .func (.func 29) #[] #[.pointer (some ⟨gb, 0, none⟩), .pointer (some ⟨gp, 0, none⟩), .pointer (some ⟨gi, 0, none⟩)]] w fun e' w' => e' = .returned (.int .i64 0) ∧ ∃ bt', Rep B w' gd ga gh n ca ch bt' (s.write i b (nextAl s.al)) ∧ Below B w w' ∧ Fz gd ga gh bt w w' := by
  have key : ∀ al' : Int, 0 ≤ al' → al' < 9223372036854775808 → ∀ w1 : World, w1.heap[gd]? = some (.cells (drow (.slice (some ⟨ga, 0, none⟩) n ca) (some ⟨gh, 0, none⟩) n ch bt al' (s.st + 1) false) 60 (0, 0)) → (∀ k, k ≠ gd → w1.heap[k]? = w.heap[k]?) → Below B w w1 →
      Calls Try.prog 29 #[.pointer (some ⟨gb, 0, none⟩), .pointer (some ⟨gp, 0, none⟩), .pointer (some ⟨gi, 0, none⟩)] w1 fun e' w' => e' = .returned (.tuple #[]) ∧ ∃ bt', Rep B w' gd ga gh n ca ch bt' (s.write i b al') ∧ Below B w w' ∧ Fz gd ga gh bt w w' := by
    intro al' h0 h1 w1 hd ho hB
    have hs0 := r.st0
    have r1 := r.row al' (s.st + 1) false h0 h1 (by omega) hd ho
    refine (Write1.calls B w1 gd ga gh n ca ch bt _ r1 gb gp gi b hb i hi ((ho gb (ne_ty kb r.d (by decide))).trans kb) ((ho gp (ne_ty kp r.d (by decide))).trans kp) ((ho gi (ne_ty ki r.d (by decide))).trans ki) hab hl).mono ?_
    rintro e' w' ⟨rfl, bt', r2, b2, f2⟩
    exact ⟨rfl, bt', r2, hB.trans b2, (Fz.d ho).trans f2⟩
  have hd := r.d
  rw [hni] at hd
  have hi0 : (0 : Int) ≤ (i : Int) := Int.natCast_nonneg i
  have hi1 : (i : Int) < (n : Int) := by omega
  by_cases c : s.al ≤ 0
  · have e : nextAl s.al = 0 := by unfold nextAl; rw [if_pos (by omega)]
    rw [e]
    exact step.low B w gd _ _ n ch bt s.al s.st hd r.n0 i hi0 hi1 c r.al0 r.al1 r.st0 hst 29 _ Try.func29 (by kernel_rfl) (by kernel_rfl) _ r.bd _ (key 0 (by decide) (by decide))
  · have e : nextAl s.al = s.al - 1 := by unfold nextAl; rw [if_neg (by omega)]
    rw [e]
    have := r.al1
    exact step.high B w gd _ _ n ch bt s.al s.st hd r.n0 i hi0 hi1 (by omega) r.al0 r.al1 r.st0 hst 29 _ Try.func29 (by kernel_rfl) (by kernel_rfl) _ r.bd _ (key (s.al - 1) (by omega) (by omega))

set_option maxHeartbeats 8000000 in
set_option maxRecDepth 100000 in
theorem Write.night (w : World) (B gd ga gh n ca ch : Nat) (bt : Value) (s : DS) (r : Rep B w gd ga gh n ca ch bt s) (hni : s.ni = true) (i : Int) (b : List Int) (hb : b.length = 64) :
    Calls Try.prog 10 #[.pointer (some ⟨gd, 0, none⟩), .int .i64 i, .agg (bcells b)] w fun e' w' => e' = .returned (.int .i64 9) ∧ Below w.heap.size w w' := by
  have HB := Aside0.mk (Below.refl w.heap.size w)
  have LB := Aside0.mk hb
  have RR := Aside0.mk r
  have NI := Aside0.mk hni
  go_enter Try.func10, Try.ntmps10
  go_wp2_with (first
    | ((with_reducible refine gate_dst (N := 3) rfl ?_); refine box_event ?hg (N := 3) ?hd (cs := #[.pointer (some ⟨gd, 0, none⟩)]) (t := 23) ?hr ?_; (case hd => rfl); (case hg => rfl); (case hr => first | (go_simp; done) | (go_simp; rfl)); intro gp hg w1p hbox hb; have Gp := Aside0.mk (show w.heap.size ≤ gp from by rw [hg]; exact below_size (by repeat (first | (with_reducible first | exact HB.out | apply below_alloc | apply pw_below_drewN | apply below_drew1) | exact HB.out))); have BKp := Aside0.mk hbox; clear hbox hg; have n0_ := Aside0.mk (below_step (by repeat (first | (with_reducible first | exact HB.out | apply below_alloc | apply pw_below_drewN | apply below_drew1) | exact HB.out)) hb); clear HB; have HB := n0_; clear n0_ hb)
    | ((with_reducible refine gate_dst (N := 4) rfl ?_); refine box_event ?hg (N := 4) ?hd (cs := #[.int .i64 i]) (t := 3) ?hr ?_; (case hd => rfl); (case hg => rfl); (case hr => first | (go_simp; done) | (go_simp; rfl)); intro gi hg w1i hbox hb; have Gi := Aside0.mk (show w.heap.size ≤ gi from by rw [hg]; exact below_size (by repeat (first | (with_reducible first | exact HB.out | apply below_alloc | apply pw_below_drewN | apply below_drew1) | exact HB.out))); have BKi := Aside0.mk hbox; clear hbox hg; have n0_ := Aside0.mk (below_step (by repeat (first | (with_reducible first | exact HB.out | apply below_alloc | apply pw_below_drewN | apply below_drew1) | exact HB.out)) hb); (first | have n1_ := Aside0.mk (blk_below BKp.out hb) | have n1_ := Aside0.mk (blk_below (blk_drewN BKp.out _) hb) | have n1_ := Aside0.mk (blk_below (blk_drew BKp.out) hb) | have n1_ := Aside0.mk (blk_below (blk_alloc BKp.out _) hb) | have n1_ := Aside0.mk (blk_below (by (with_reducible repeat (first | refine blk_drewN ?_ _ | refine blk_drew ?_ | refine blk_alloc ?_ _)); exact BKp.out) hb)); clear HB BKp; have HB := n0_; have BKp := n1_; clear n0_ n1_ hb)
    | ((with_reducible refine gate_dst (N := 5) rfl ?_); refine box_event ?hg (N := 5) ?hd (cs := bcells b) (t := 29) ?hr ?_; (case hd => rfl); (case hg => rfl); (case hr => first | (go_simp; done) | (go_simp; rfl)); intro gb hg w1b hbox hb; have Gb := Aside0.mk (show w.heap.size ≤ gb from by rw [hg]; exact below_size (by repeat (first | (with_reducible first | exact HB.out | apply below_alloc | apply pw_below_drewN | apply below_drew1) | exact HB.out))); have BKb := Aside0.mk hbox; clear hbox hg; have n0_ := Aside0.mk (below_step (by repeat (first | (with_reducible first | exact HB.out | apply below_alloc | apply pw_below_drewN | apply below_drew1) | exact HB.out)) hb); (first | have n1_ := Aside0.mk (blk_below BKp.out hb) | have n1_ := Aside0.mk (blk_below (blk_drewN BKp.out _) hb) | have n1_ := Aside0.mk (blk_below (blk_drew BKp.out) hb) | have n1_ := Aside0.mk (blk_below (blk_alloc BKp.out _) hb) | have n1_ := Aside0.mk (blk_below (by (with_reducible repeat (first | refine blk_drewN ?_ _ | refine blk_drew ?_ | refine blk_alloc ?_ _)); exact BKp.out) hb)); (first | have n2_ := Aside0.mk (blk_below BKi.out hb) | have n2_ := Aside0.mk (blk_below (blk_drewN BKi.out _) hb) | have n2_ := Aside0.mk (blk_below (blk_drew BKi.out) hb) | have n2_ := Aside0.mk (blk_below (blk_alloc BKi.out _) hb) | have n2_ := Aside0.mk (blk_below (by (with_reducible repeat (first | refine blk_drewN ?_ _ | refine blk_drew ?_ | refine blk_alloc ?_ _)); exact BKi.out) hb)); clear HB BKp BKi; have HB := n0_; have BKp := n1_; have BKi := n2_; clear n0_ n1_ n2_ hb; have xp : w1b.cell? ⟨gp, 0, none⟩ = some (.pointer (some ⟨gd, 0, none⟩)) := (blk_cell BKp.out 0).trans rfl; have xi : w1b.cell? ⟨gi, 0, none⟩ = some (.int .i64 i) := (blk_cell BKi.out 0).trans rfl)
    | (go_at_call 28; with_reducible refine (step.night w1b gd _ _ n ch bt s.al s.st (show w1b.heap[gd]? = some (.cells (drow (.slice (some ⟨ga, 0, none⟩) n ca) (some ⟨gh, 0, none⟩) n ch bt s.al s.st true) 60 (0, 0)) from by have h := (RR.out.below (by repeat (first | (with_reducible first | exact HB.out | apply below_alloc | apply pw_below_drewN | apply below_drew1) | exact HB.out))).d; rw [NI.out] at h; exact h) RR.out.n0 i _).mono ?_; rintro e' w' ⟨rfl, hw⟩; subst w'))
  go_ret
  exact ⟨rfl, by repeat (first | (with_reducible first | exact HB.out | apply below_alloc | apply pw_below_drewN | apply below_drew1) | exact HB.out)⟩

set_option maxHeartbeats 8000000 in
set_option maxRecDepth 100000 in
theorem Write.bad (w : World) (B gd ga gh n ca ch : Nat) (bt : Value) (s : DS) (r : Rep B w gd ga gh n ca ch bt s) (hni : s.ni = false) (i : Int) (hi : i < 0 ∨ (n : Int) ≤ i) (b : List Int) (hb : b.length = 64) :
    Calls Try.prog 10 #[.pointer (some ⟨gd, 0, none⟩), .int .i64 i, .agg (bcells b)] w fun e' w' => e' = .returned (.int .i64 2) ∧ Below w.heap.size w w' := by
  have HB := Aside0.mk (Below.refl w.heap.size w)
  have LB := Aside0.mk hb
  have RR := Aside0.mk r
  have NI := Aside0.mk hni
  go_enter Try.func10, Try.ntmps10
  go_wp2_with (first
    | ((with_reducible refine gate_dst (N := 3) rfl ?_); refine box_event ?hg (N := 3) ?hd (cs := #[.pointer (some ⟨gd, 0, none⟩)]) (t := 23) ?hr ?_; (case hd => rfl); (case hg => rfl); (case hr => first | (go_simp; done) | (go_simp; rfl)); intro gp hg w1p hbox hb; have Gp := Aside0.mk (show w.heap.size ≤ gp from by rw [hg]; exact below_size (by repeat (first | (with_reducible first | exact HB.out | apply below_alloc | apply pw_below_drewN | apply below_drew1) | exact HB.out))); have BKp := Aside0.mk hbox; clear hbox hg; have n0_ := Aside0.mk (below_step (by repeat (first | (with_reducible first | exact HB.out | apply below_alloc | apply pw_below_drewN | apply below_drew1) | exact HB.out)) hb); clear HB; have HB := n0_; clear n0_ hb)
    | ((with_reducible refine gate_dst (N := 4) rfl ?_); refine box_event ?hg (N := 4) ?hd (cs := #[.int .i64 i]) (t := 3) ?hr ?_; (case hd => rfl); (case hg => rfl); (case hr => first | (go_simp; done) | (go_simp; rfl)); intro gi hg w1i hbox hb; have Gi := Aside0.mk (show w.heap.size ≤ gi from by rw [hg]; exact below_size (by repeat (first | (with_reducible first | exact HB.out | apply below_alloc | apply pw_below_drewN | apply below_drew1) | exact HB.out))); have BKi := Aside0.mk hbox; clear hbox hg; have n0_ := Aside0.mk (below_step (by repeat (first | (with_reducible first | exact HB.out | apply below_alloc | apply pw_below_drewN | apply below_drew1) | exact HB.out)) hb); (first | have n1_ := Aside0.mk (blk_below BKp.out hb) | have n1_ := Aside0.mk (blk_below (blk_drewN BKp.out _) hb) | have n1_ := Aside0.mk (blk_below (blk_drew BKp.out) hb) | have n1_ := Aside0.mk (blk_below (blk_alloc BKp.out _) hb) | have n1_ := Aside0.mk (blk_below (by (with_reducible repeat (first | refine blk_drewN ?_ _ | refine blk_drew ?_ | refine blk_alloc ?_ _)); exact BKp.out) hb)); clear HB BKp; have HB := n0_; have BKp := n1_; clear n0_ n1_ hb)
    | ((with_reducible refine gate_dst (N := 5) rfl ?_); refine box_event ?hg (N := 5) ?hd (cs := bcells b) (t := 29) ?hr ?_; (case hd => rfl); (case hg => rfl); (case hr => first | (go_simp; done) | (go_simp; rfl)); intro gb hg w1b hbox hb; have Gb := Aside0.mk (show w.heap.size ≤ gb from by rw [hg]; exact below_size (by repeat (first | (with_reducible first | exact HB.out | apply below_alloc | apply pw_below_drewN | apply below_drew1) | exact HB.out))); have BKb := Aside0.mk hbox; clear hbox hg; have n0_ := Aside0.mk (below_step (by repeat (first | (with_reducible first | exact HB.out | apply below_alloc | apply pw_below_drewN | apply below_drew1) | exact HB.out)) hb); (first | have n1_ := Aside0.mk (blk_below BKp.out hb) | have n1_ := Aside0.mk (blk_below (blk_drewN BKp.out _) hb) | have n1_ := Aside0.mk (blk_below (blk_drew BKp.out) hb) | have n1_ := Aside0.mk (blk_below (blk_alloc BKp.out _) hb) | have n1_ := Aside0.mk (blk_below (by (with_reducible repeat (first | refine blk_drewN ?_ _ | refine blk_drew ?_ | refine blk_alloc ?_ _)); exact BKp.out) hb)); (first | have n2_ := Aside0.mk (blk_below BKi.out hb) | have n2_ := Aside0.mk (blk_below (blk_drewN BKi.out _) hb) | have n2_ := Aside0.mk (blk_below (blk_drew BKi.out) hb) | have n2_ := Aside0.mk (blk_below (blk_alloc BKi.out _) hb) | have n2_ := Aside0.mk (blk_below (by (with_reducible repeat (first | refine blk_drewN ?_ _ | refine blk_drew ?_ | refine blk_alloc ?_ _)); exact BKi.out) hb)); clear HB BKp BKi; have HB := n0_; have BKp := n1_; have BKi := n2_; clear n0_ n1_ n2_ hb; have xp : w1b.cell? ⟨gp, 0, none⟩ = some (.pointer (some ⟨gd, 0, none⟩)) := (blk_cell BKp.out 0).trans rfl; have xi : w1b.cell? ⟨gi, 0, none⟩ = some (.int .i64 i) := (blk_cell BKi.out 0).trans rfl)
    | (go_at_call 28; with_reducible refine (step.bad w1b gd _ _ n ch bt s.al s.st (show w1b.heap[gd]? = some (.cells (drow (.slice (some ⟨ga, 0, none⟩) n ca) (some ⟨gh, 0, none⟩) n ch bt s.al s.st false) 60 (0, 0)) from by have h := (RR.out.below (by repeat (first | (with_reducible first | exact HB.out | apply below_alloc | apply pw_below_drewN | apply below_drew1) | exact HB.out))).d; rw [NI.out] at h; exact h) RR.out.n0 i hi _).mono ?_; rintro e' w' ⟨rfl, hw⟩; subst w'))
  go_ret
  exact ⟨rfl, by repeat (first | (with_reducible first | exact HB.out | apply below_alloc | apply pw_below_drewN | apply below_drew1) | exact HB.out)⟩

set_option maxHeartbeats 8000000 in
set_option maxRecDepth 100000 in
theorem Write.ok (w : World) (B gd ga gh n ca ch : Nat) (bt : Value) (s : DS) (r : Rep B w gd ga gh n ca ch bt s) (hni : s.ni = false) (hal : s.al ≠ 1) (hst : s.st < 4611686018427387904) (hl : (s.btw.length + 1) * 72 ≤ 140737488355328) (i : Nat) (hi : i < n) (b : List Int) (hb : b.length = 64) :
    Calls Try.prog 10 #[.pointer (some ⟨gd, 0, none⟩), .int .i64 (i : Int), .agg (bcells b)] w fun e' w' => e' = .returned (.int .i64 0) ∧ ∃ bt', Rep B w' gd ga gh n ca ch bt' (s.write i b (nextAl s.al)) ∧ Below B w w' ∧ Fz gd ga gh bt w w' := by
  have HB := Aside0.mk (Below.refl w.heap.size w)
  have LB := Aside0.mk hb
  have RR := Aside0.mk r
  have NI := Aside0.mk hni
  have AL := Aside0.mk hal
  have ST := Aside0.mk hst
  have HL := Aside0.mk hl
  have HI := Aside0.mk hi
  go_enter Try.func10, Try.ntmps10
  go_wp2_with (first
    | ((with_reducible refine gate_dst (N := 3) rfl ?_); refine box_event ?hg (N := 3) ?hd (cs := #[.pointer (some ⟨gd, 0, none⟩)]) (t := 23) ?hr ?_; (case hd => rfl); (case hg => rfl); (case hr => first | (go_simp; done) | (go_simp; rfl)); intro gp hg w1p hbox hb; have Gp := Aside0.mk (show w.heap.size ≤ gp from by rw [hg]; exact below_size (by repeat (first | (with_reducible first | exact HB.out | apply below_alloc | apply pw_below_drewN | apply below_drew1) | exact HB.out))); have BKp := Aside0.mk hbox; clear hbox hg; have n0_ := Aside0.mk (below_step (by repeat (first | (with_reducible first | exact HB.out | apply below_alloc | apply pw_below_drewN | apply below_drew1) | exact HB.out)) hb); clear HB; have HB := n0_; clear n0_ hb)
    | ((with_reducible refine gate_dst (N := 4) rfl ?_); refine box_event ?hg (N := 4) ?hd (cs := #[.int .i64 (i : Int)]) (t := 3) ?hr ?_; (case hd => rfl); (case hg => rfl); (case hr => first | (go_simp; done) | (go_simp; rfl)); intro gi hg w1i hbox hb; have Gi := Aside0.mk (show w.heap.size ≤ gi from by rw [hg]; exact below_size (by repeat (first | (with_reducible first | exact HB.out | apply below_alloc | apply pw_below_drewN | apply below_drew1) | exact HB.out))); have BKi := Aside0.mk hbox; clear hbox hg; have n0_ := Aside0.mk (below_step (by repeat (first | (with_reducible first | exact HB.out | apply below_alloc | apply pw_below_drewN | apply below_drew1) | exact HB.out)) hb); (first | have n1_ := Aside0.mk (blk_below BKp.out hb) | have n1_ := Aside0.mk (blk_below (blk_drewN BKp.out _) hb) | have n1_ := Aside0.mk (blk_below (blk_drew BKp.out) hb) | have n1_ := Aside0.mk (blk_below (blk_alloc BKp.out _) hb) | have n1_ := Aside0.mk (blk_below (by (with_reducible repeat (first | refine blk_drewN ?_ _ | refine blk_drew ?_ | refine blk_alloc ?_ _)); exact BKp.out) hb)); clear HB BKp; have HB := n0_; have BKp := n1_; clear n0_ n1_ hb)
    | ((with_reducible refine gate_dst (N := 5) rfl ?_); refine box_event ?hg (N := 5) ?hd (cs := bcells b) (t := 29) ?hr ?_; (case hd => rfl); (case hg => rfl); (case hr => first | (go_simp; done) | (go_simp; rfl)); intro gb hg w1b hbox hb; have Gb := Aside0.mk (show w.heap.size ≤ gb from by rw [hg]; exact below_size (by repeat (first | (with_reducible first | exact HB.out | apply below_alloc | apply pw_below_drewN | apply below_drew1) | exact HB.out))); have BKb := Aside0.mk hbox; clear hbox hg; have n0_ := Aside0.mk (below_step (by repeat (first | (with_reducible first | exact HB.out | apply below_alloc | apply pw_below_drewN | apply below_drew1) | exact HB.out)) hb); (first | have n1_ := Aside0.mk (blk_below BKp.out hb) | have n1_ := Aside0.mk (blk_below (blk_drewN BKp.out _) hb) | have n1_ := Aside0.mk (blk_below (blk_drew BKp.out) hb) | have n1_ := Aside0.mk (blk_below (blk_alloc BKp.out _) hb) | have n1_ := Aside0.mk (blk_below (by (with_reducible repeat (first | refine blk_drewN ?_ _ | refine blk_drew ?_ | refine blk_alloc ?_ _)); exact BKp.out) hb)); (first | have n2_ := Aside0.mk (blk_below BKi.out hb) | have n2_ := Aside0.mk (blk_below (blk_drewN BKi.out _) hb) | have n2_ := Aside0.mk (blk_below (blk_drew BKi.out) hb) | have n2_ := Aside0.mk (blk_below (blk_alloc BKi.out _) hb) | have n2_ := Aside0.mk (blk_below (by (with_reducible repeat (first | refine blk_drewN ?_ _ | refine blk_drew ?_ | refine blk_alloc ?_ _)); exact BKi.out) hb)); clear HB BKp BKi; have HB := n0_; have BKp := n1_; have BKi := n2_; clear n0_ n1_ n2_ hb; have xp : w1b.cell? ⟨gp, 0, none⟩ = some (.pointer (some ⟨gd, 0, none⟩)) := (blk_cell BKp.out 0).trans rfl; have xi : w1b.cell? ⟨gi, 0, none⟩ = some (.int .i64 (i : Int)) := (blk_cell BKi.out 0).trans rfl)
    | (go_at_call 28; with_reducible refine (Write.step B w1b gd ga gh n ca ch bt s (RR.out.below (by repeat (first | (with_reducible first | exact HB.out | apply below_alloc | apply pw_below_drewN | apply below_drew1) | exact HB.out))) NI.out AL.out ST.out gb gp gi b LB.out i HI.out BKb.out BKp.out BKi.out (Nat.ne_of_lt (Nat.lt_of_lt_of_le (blk_lt RR.out.a) Gb.out)) HL.out).mono ?_; rintro e' w' ⟨rfl, hq⟩))
  go_ret
  obtain ⟨bt', r2, b2, f2⟩ := hq
  exact ⟨rfl, bt', r2, Below.trans (below_of_le RR.out.size HB.out) b2, (Fz.below HB.out).trans f2⟩

set_option maxHeartbeats 8000000 in
set_option maxRecDepth 100000 in
theorem Write.ring (w : World) (B gd ga gh n ca ch : Nat) (bt : Value) (s : DS) (r : Rep B w gd ga gh n ca ch bt s) (hni : s.ni = false) (hal : s.al = 1) (i : Nat) (hi : i < n) (b : List Int) (hb : b.length = 64) :
    Calls Try.prog 10 #[.pointer (some ⟨gd, 0, none⟩), .int .i64 (i : Int), .agg (bcells b)] w fun e' w' => e' = .returned (.int .i64 9) ∧ Rep B w' gd ga gh n ca ch bt { s with al := 0, ni := true } ∧ Below B w w' ∧ Fz gd ga gh bt w w' := by
  have HB := Aside0.mk (Below.refl w.heap.size w)
  have LB := Aside0.mk hb
  have RR := Aside0.mk r
  have NI := Aside0.mk hni
  have AL := Aside0.mk hal
  have HI := Aside0.mk hi
  go_enter Try.func10, Try.ntmps10
  go_wp2_with (first
    | ((with_reducible refine gate_dst (N := 3) rfl ?_); refine box_event ?hg (N := 3) ?hd (cs := #[.pointer (some ⟨gd, 0, none⟩)]) (t := 23) ?hr ?_; (case hd => rfl); (case hg => rfl); (case hr => first | (go_simp; done) | (go_simp; rfl)); intro gp hg w1p hbox hb; have Gp := Aside0.mk (show w.heap.size ≤ gp from by rw [hg]; exact below_size (by repeat (first | (with_reducible first | exact HB.out | apply below_alloc | apply pw_below_drewN | apply below_drew1) | exact HB.out))); have BKp := Aside0.mk hbox; clear hbox hg; have n0_ := Aside0.mk (below_step (by repeat (first | (with_reducible first | exact HB.out | apply below_alloc | apply pw_below_drewN | apply below_drew1) | exact HB.out)) hb); clear HB; have HB := n0_; clear n0_ hb)
    | ((with_reducible refine gate_dst (N := 4) rfl ?_); refine box_event ?hg (N := 4) ?hd (cs := #[.int .i64 (i : Int)]) (t := 3) ?hr ?_; (case hd => rfl); (case hg => rfl); (case hr => first | (go_simp; done) | (go_simp; rfl)); intro gi hg w1i hbox hb; have Gi := Aside0.mk (show w.heap.size ≤ gi from by rw [hg]; exact below_size (by repeat (first | (with_reducible first | exact HB.out | apply below_alloc | apply pw_below_drewN | apply below_drew1) | exact HB.out))); have BKi := Aside0.mk hbox; clear hbox hg; have n0_ := Aside0.mk (below_step (by repeat (first | (with_reducible first | exact HB.out | apply below_alloc | apply pw_below_drewN | apply below_drew1) | exact HB.out)) hb); (first | have n1_ := Aside0.mk (blk_below BKp.out hb) | have n1_ := Aside0.mk (blk_below (blk_drewN BKp.out _) hb) | have n1_ := Aside0.mk (blk_below (blk_drew BKp.out) hb) | have n1_ := Aside0.mk (blk_below (blk_alloc BKp.out _) hb) | have n1_ := Aside0.mk (blk_below (by (with_reducible repeat (first | refine blk_drewN ?_ _ | refine blk_drew ?_ | refine blk_alloc ?_ _)); exact BKp.out) hb)); clear HB BKp; have HB := n0_; have BKp := n1_; clear n0_ n1_ hb)
    | ((with_reducible refine gate_dst (N := 5) rfl ?_); refine box_event ?hg (N := 5) ?hd (cs := bcells b) (t := 29) ?hr ?_; (case hd => rfl); (case hg => rfl); (case hr => first | (go_simp; done) | (go_simp; rfl)); intro gb hg w1b hbox hb; have Gb := Aside0.mk (show w.heap.size ≤ gb from by rw [hg]; exact below_size (by repeat (first | (with_reducible first | exact HB.out | apply below_alloc | apply pw_below_drewN | apply below_drew1) | exact HB.out))); have BKb := Aside0.mk hbox; clear hbox hg; have n0_ := Aside0.mk (below_step (by repeat (first | (with_reducible first | exact HB.out | apply below_alloc | apply pw_below_drewN | apply below_drew1) | exact HB.out)) hb); (first | have n1_ := Aside0.mk (blk_below BKp.out hb) | have n1_ := Aside0.mk (blk_below (blk_drewN BKp.out _) hb) | have n1_ := Aside0.mk (blk_below (blk_drew BKp.out) hb) | have n1_ := Aside0.mk (blk_below (blk_alloc BKp.out _) hb) | have n1_ := Aside0.mk (blk_below (by (with_reducible repeat (first | refine blk_drewN ?_ _ | refine blk_drew ?_ | refine blk_alloc ?_ _)); exact BKp.out) hb)); (first | have n2_ := Aside0.mk (blk_below BKi.out hb) | have n2_ := Aside0.mk (blk_below (blk_drewN BKi.out _) hb) | have n2_ := Aside0.mk (blk_below (blk_drew BKi.out) hb) | have n2_ := Aside0.mk (blk_below (blk_alloc BKi.out _) hb) | have n2_ := Aside0.mk (blk_below (by (with_reducible repeat (first | refine blk_drewN ?_ _ | refine blk_drew ?_ | refine blk_alloc ?_ _)); exact BKi.out) hb)); clear HB BKp BKi; have HB := n0_; have BKp := n1_; have BKi := n2_; clear n0_ n1_ n2_ hb; have xp : w1b.cell? ⟨gp, 0, none⟩ = some (.pointer (some ⟨gd, 0, none⟩)) := (blk_cell BKp.out 0).trans rfl; have xi : w1b.cell? ⟨gi, 0, none⟩ = some (.int .i64 (i : Int)) := (blk_cell BKi.out 0).trans rfl)
    | (go_at_call 28; with_reducible refine (step.ring B w1b gd _ _ n ch bt s.st (show w1b.heap[gd]? = some (.cells (drow (.slice (some ⟨ga, 0, none⟩) n ca) (some ⟨gh, 0, none⟩) n ch bt 1 s.st false) 60 (0, 0)) from by have h := (RR.out.below (by repeat (first | (with_reducible first | exact HB.out | apply below_alloc | apply pw_below_drewN | apply below_drew1) | exact HB.out))).d; rw [NI.out, AL.out] at h; exact h) RR.out.n0 (i : Int) (Int.natCast_nonneg i) (by have := HI.out; omega) _ RR.out.bd).mono ?_; rintro e' w' ⟨rfl, hd, ho, hB⟩))
  go_ret
  exact ⟨rfl, ((RR.out.below (by repeat (first | (with_reducible first | exact HB.out | apply below_alloc | apply pw_below_drewN | apply below_drew1) | exact HB.out)))).row 0 s.st true (by decide) (by decide) RR.out.st0 hd ho, Below.trans (below_of_le RR.out.size HB.out) hB, (Fz.below HB.out).trans (Fz.d ho)⟩

set_option maxHeartbeats 8000000 in
set_option maxRecDepth 100000 in
theorem Arm.ok (w : World) (B gd ga gh n ca ch : Nat) (bt : Value) (s : DS) (r : Rep B w gd ga gh n ca ch bt s) (hni : s.ni = false) (i : Int) (h0 : 0 ≤ i) (h1 : i < 9223372036854775808) :
    Calls Try.prog 9 #[.pointer (some ⟨gd, 0, none⟩), .int .i64 i] w fun e' w' => e' = .returned (.int .i64 0) ∧ Rep B w' gd ga gh n ca ch bt { s with al := i } ∧ Below B w w' ∧ Fz gd ga gh bt w w' := by
  have RR := Aside0.mk r
  have hg := r.d
  rw [hni] at hg
  have x3 : w.cell? ⟨gd, 3, none⟩ = some (.int .i64 s.al) := (blk_cell hg 3).trans rfl
  have z3 := blk_frozen hg 3
  have d1 : decide (i < 0) = false := decide_eq_false (by omega)
  have NI := Aside0.mk hni
  clear r hni
  go_enter Try.func9, Try.ntmps9
  go_wp2_with (go_at_call 27; with_reducible refine (day.ok _ gd _ _ n ch bt s.al s.st hg RR.out.n0).mono ?_; rintro e' w' ⟨rfl, hw⟩; subst w')
  go_ret
  have hd := blk_put hg 3 (.int .i64 i) (drow_al _ _ _ _ _ _ _ _ i)
  have ho : ∀ k, k ≠ gd → (w.setCell ⟨gd, 3, none⟩ (.int .i64 i)).heap[k]? = w.heap[k]? := fun k hk => heap_setCell_other _ _ k _ hk
  have r2 := RR.out.row i s.st false h0 h1 RR.out.st0 hd ho
  rw [← NI.out] at r2
  exact ⟨rfl, r2, (Below.refl B w).setCell (show B ≤ gd from RR.out.bd) _, Fz.d ho⟩

set_option maxHeartbeats 8000000 in
set_option maxRecDepth 100000 in
theorem Flush.night (w : World) (B gd ga gh n ca ch : Nat) (bt : Value) (s : DS) (r : Rep B w gd ga gh n ca ch bt s) (hni : s.ni = true) :
    Calls Try.prog 11 #[.pointer (some ⟨gd, 0, none⟩)] w fun e' w' => e' = .returned (.int .i64 9) ∧ Below w.heap.size w w' := by
  have HB := Aside0.mk (Below.refl w.heap.size w)
  have RR := Aside0.mk r
  have NI := Aside0.mk hni
  go_enter Try.func11, Try.ntmps11
  go_wp2_with (first
    | ((with_reducible refine gate_dst (N := 1) rfl ?_); refine box_event ?hg (N := 1) ?hd (cs := #[.pointer (some ⟨gd, 0, none⟩)]) (t := 23) ?hr ?_; (case hd => rfl); (case hg => rfl); (case hr => first | (go_simp; done) | (go_simp; rfl)); intro gp hg w1p hbox hb; have Gp := Aside0.mk (show w.heap.size ≤ gp from by rw [hg]; exact below_size (by repeat (first | (with_reducible first | exact HB.out | apply below_alloc | apply pw_below_drewN | apply below_drew1) | exact HB.out))); have BKp := Aside0.mk hbox; clear hbox hg; have n0_ := Aside0.mk (below_step (by repeat (first | (with_reducible first | exact HB.out | apply below_alloc | apply pw_below_drewN | apply below_drew1) | exact HB.out)) hb); clear HB; have HB := n0_; clear n0_ hb; have xp : w1p.cell? ⟨gp, 0, none⟩ = some (.pointer (some ⟨gd, 0, none⟩)) := (blk_cell BKp.out 0).trans rfl)
    | (go_at_call 28; with_reducible refine (step.night w1p gd _ _ n ch bt s.al s.st (show w1p.heap[gd]? = some (.cells (drow (.slice (some ⟨ga, 0, none⟩) n ca) (some ⟨gh, 0, none⟩) n ch bt s.al s.st true) 60 (0, 0)) from by have h := (RR.out.below (by repeat (first | (with_reducible first | exact HB.out | apply below_alloc | apply pw_below_drewN | apply below_drew1) | exact HB.out))).d; rw [NI.out] at h; exact h) RR.out.n0 0 _).mono ?_; rintro e' w' ⟨rfl, hw⟩; subst w'))
  go_ret
  exact ⟨rfl, by repeat (first | (with_reducible first | exact HB.out | apply below_alloc | apply pw_below_drewN | apply below_drew1) | exact HB.out)⟩

set_option maxHeartbeats 8000000 in
set_option maxRecDepth 100000 in
theorem Flush.ring (w : World) (B gd ga gh n ca ch : Nat) (bt : Value) (s : DS) (r : Rep B w gd ga gh n ca ch bt s) (hni : s.ni = false) (hal : s.al = 1) :
    Calls Try.prog 11 #[.pointer (some ⟨gd, 0, none⟩)] w fun e' w' => e' = .returned (.int .i64 9) ∧ Rep B w' gd ga gh n ca ch bt { s with al := 0, ni := true } ∧ Below B w w' ∧ Fz gd ga gh bt w w' := by
  have HB := Aside0.mk (Below.refl w.heap.size w)
  have RR := Aside0.mk r
  have NI := Aside0.mk hni
  have AL := Aside0.mk hal
  go_enter Try.func11, Try.ntmps11
  go_wp2_with (first
    | ((with_reducible refine gate_dst (N := 1) rfl ?_); refine box_event ?hg (N := 1) ?hd (cs := #[.pointer (some ⟨gd, 0, none⟩)]) (t := 23) ?hr ?_; (case hd => rfl); (case hg => rfl); (case hr => first | (go_simp; done) | (go_simp; rfl)); intro gp hg w1p hbox hb; have Gp := Aside0.mk (show w.heap.size ≤ gp from by rw [hg]; exact below_size (by repeat (first | (with_reducible first | exact HB.out | apply below_alloc | apply pw_below_drewN | apply below_drew1) | exact HB.out))); have BKp := Aside0.mk hbox; clear hbox hg; have n0_ := Aside0.mk (below_step (by repeat (first | (with_reducible first | exact HB.out | apply below_alloc | apply pw_below_drewN | apply below_drew1) | exact HB.out)) hb); clear HB; have HB := n0_; clear n0_ hb; have xp : w1p.cell? ⟨gp, 0, none⟩ = some (.pointer (some ⟨gd, 0, none⟩)) := (blk_cell BKp.out 0).trans rfl)
    | (go_at_call 28; with_reducible refine (step.ring B w1p gd _ _ n ch bt s.st (show w1p.heap[gd]? = some (.cells (drow (.slice (some ⟨ga, 0, none⟩) n ca) (some ⟨gh, 0, none⟩) n ch bt 1 s.st false) 60 (0, 0)) from by have h := (RR.out.below (by repeat (first | (with_reducible first | exact HB.out | apply below_alloc | apply pw_below_drewN | apply below_drew1) | exact HB.out))).d; rw [NI.out, AL.out] at h; exact h) RR.out.n0 0 (Int.le_refl 0) (by have := RR.out.n0; omega) _ RR.out.bd).mono ?_; rintro e' w' ⟨rfl, hd, ho, hB⟩))
  go_ret
  exact ⟨rfl, ((RR.out.below (by repeat (first | (with_reducible first | exact HB.out | apply below_alloc | apply pw_below_drewN | apply below_drew1) | exact HB.out)))).row 0 s.st true (by decide) (by decide) RR.out.st0 hd ho, Below.trans (below_of_le RR.out.size HB.out) hB, (Fz.below HB.out).trans (Fz.d ho)⟩

end Go.Proofs.Ytlnfdhcpnbhkdaa.GA.E
