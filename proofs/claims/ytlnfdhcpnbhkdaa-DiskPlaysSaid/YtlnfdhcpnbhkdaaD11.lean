/- Blocks in memory: loads, stores and copies of 64 bytes. No condition. -/
import Derived.Test.YtlnfdhcpnbhkdaaD10
import Derived.Laws.CopyOwn
import Derived.ChangeKeysEq
import Derived.Deep.RegionHeld3
import Derived.Deep.MidRow
namespace Go.Proofs.Ytlnfdhcpnbhkdaa.GA
open Go.RowKit Go.Proofs.YtlnfdhcpnbhkdaaW.PrintWords Go.Proofs.YtlnfdhcpnbhkdaaW.PrintLast Go.Proofs.YtlnfdhcpnbhkdaaW.PrintMore
set_option linter.unusedVariables false
set_option linter.unusedSimpArgs false


theorem Write.ok0 (w : World) (B gd ga gh n : Nat) (bt : Value) (s : DS) (r : Rep B w gd ga gh n bt s) (hni : s.ni = false) (hal : s.al ≠ 1) (hst : s.st < 4611686018427387904) (hl : (s.btw.length + 1) * 72 ≤ 140737488355328) (b : List Int) (hb : b.length = 64) :
    Calls Try.prog 10 #[.pointer (some ⟨gd, 0, none⟩), .int .i64 0, .agg (bcells b)] w fun e' w' => e' = .returned (.int .i64 0) ∧ ∃ bt', Rep B w' gd ga gh n bt' (s.write 0 b (nextAl s.al)) ∧ Below B w w' ∧ Fr w w' := Write.ok w B gd ga gh n bt s r hni hal hst hl 0 r.n0 b hb
theorem Read.ok0 (w : World) (B gd ga gh n : Nat) (bt : Value) (s : DS) (r : Rep B w gd ga gh n bt s) (hni : s.ni = false) :
    Calls Try.prog 19 #[.pointer (some ⟨gd, 0, none⟩), .int .i64 0] w fun e w' => e = .returned (.tuple #[.agg (bcells (blkAt s.asked 0)), .int .i64 0]) ∧ Below w.heap.size w w' := by
  have hd := r.d
  rw [hni] at hd
  exact Read.ok w gd ga _ n n bt s.al s.st hd s.asked r.a r.la 0 r.n0
theorem Read.nightR (w : World) (B gd ga gh n : Nat) (bt : Value) (s : DS) (r : Rep B w gd ga gh n bt s) (hni : s.ni = true) (i : Int) :
    Calls Try.prog 19 #[.pointer (some ⟨gd, 0, none⟩), .int .i64 i] w fun e w' => e = .returned (.tuple #[.agg (bcells zero64), .int .i64 9]) ∧ Below w.heap.size w w' := by
  have hd := r.d
  rw [hni] at hd
  exact Read.night w gd _ _ n n bt s.al s.st hd r.n0 i
theorem Steps.R (w : World) (B gd ga gh n : Nat) (bt : Value) (s : DS) (r : Rep B w gd ga gh n bt s) : Calls Try.prog 13 #[.pointer (some ⟨gd, 0, none⟩)] w fun e w' => e = .returned (.int .i64 s.st) ∧ w' = w := Steps.row w gd _ _ n n bt s.al s.st s.ni r.d
theorem Dark.R (w : World) (B gd ga gh n : Nat) (bt : Value) (s : DS) (r : Rep B w gd ga gh n bt s) : Calls Try.prog 12 #[.pointer (some ⟨gd, 0, none⟩)] w fun e w' => e = .returned (.bool s.ni) ∧ w' = w := Dark.row w gd _ _ n n bt s.al s.st s.ni r.d
theorem pick3_make (W : World) : (Instr.buildSlice 37 1 #[(0, .int .i64 3)]).run Try.prog W = .ok (.slice (some ⟨W.heap.size, 0, none⟩) 1 1) (W.alloc (.cells #[.int .i64 3] 3)) := by kernel_rfl
theorem pick3_run {o : Oper} {a : Act} (ho : o.op = .buildSlice 37 1 #[(0, .const (.int .i64 3))]) (W : World) : (execOp a.eval o).run Try.prog W = .ok (.value (.slice (some ⟨W.heap.size, 0, none⟩) 1 1)) (W.alloc (.cells #[.int .i64 3] 3 (0, 0))) := by
  unfold execOp
  have hm : #[((0 : Nat), Operand.const (.int .i64 3))].map (fun (i, x) => (i, a.eval x)) = #[(0, .int .i64 3)] := by simp [Act.eval]
  simp only [ho, hm, Sem.run_bind, pick3_make, Result.andThen_ok, Sem.run_pure]
theorem pick3_C {w : World} {g : Nat} (hb : w.heap[g]? = some (.cells #[.int .i64 3] 3 (0, 0))) : Kd.C (Kd.int .i64) w (some ⟨g, 0, none⟩) [(3 : Int)].length [3] := by
  refine Kd.C_of_reads (d := (0 : Int)) (h1 := fun _ => rfl) ⟨rfl, by decide, fun _ => ⟨⟨g, 0, none⟩, rfl, fun j hj => ?_⟩⟩
  have hj0 : j = 0 := by simp at hj; exact hj
  subst hj0
  rw [Addr.add_mid, blk_cell hb]
  rfl
theorem Crash.pick3 (w : World) (B gd ga gh n : Nat) (bt : Value) (s : DS) (r : Rep B w gd ga gh n bt s) (hlb : s.btw.length ≤ 4611686018427387904) (gp : Nat) (hp : w.heap[gp]? = some (.cells #[.int .i64 3] 3 (0, 0))) :
    Calls Try.prog 17 #[.pointer (some ⟨gd, 0, none⟩), .slice (some ⟨gp, 0, none⟩) 1 1] w fun e' w' => e' = .returned (.int .i64 0) ∧ Rep B w' gd ga gh n (.slice none 0 0) (s.crash [3]) ∧ Below B w w' ∧ Fr w w' :=
  Crash.calls w B gd ga gh n bt s r (some ⟨gp, 0, none⟩) 1 [3] hlb (fun w' _ hf => pick3_C (hf gp _ _ hp (by decide) (by decide) (by decide)))
def b11 : List Int := List.replicate 64 17
theorem all11 (w : World) : Calls Try.prog 24 #[.int .u8 17] w fun e' w' => e' = .returned (.agg (bcells b11)) ∧ Below w.heap.size w w' := all.calls 17 w
def s1 : DS := ⟨zerosN 64, zerosN 64, [], 2, 0, false⟩
def s2 : DS := s1.write 0 b11 (nextAl s1.al)
theorem s2_eq : s1.write 0 b11 (nextAl s1.al) = s2 := rfl
theorem s2_al : s2.al = 1 := by decide
def s3 : DS := { s2 with al := 0, ni := true }
theorem s3_eq : ({ s2 with al := 0, ni := true } : DS) = s3 := rfl
def s4 : DS := s3.crash [3]
theorem s4_eq : s3.crash [3] = s4 := rfl
theorem s1_eq : ({ (⟨zerosN 64, zerosN 64, [], 0, 0, false⟩ : DS) with al := 2 } : DS) = s1 := rfl
def x11 : List Int := List.replicate 32 17 ++ List.replicate 32 0
set_option maxRecDepth 100000 in
theorem s4_block : blkAt s4.asked 0 = x11 := by decide +kernel

set_option maxHeartbeats 16000000 in
set_option maxRecDepth 100000 in
theorem law_lives.calls (w : World) : Calls Try.prog 14 #[] w fun e' w' => e' = .returned (.bool true) ∧ Below w.heap.size w w' := by
  have HB := Aside0.mk (Below.refl w.heap.size w)
  have hs4 : s4.st = 1 := rfl
  go_enter Try.func14, Try.ntmps14
  go_wp2_with (first
    | (go_at_call 8; first | (with_reducible refine (New.few _ 63 (by decide)).mono ?_; rintro e' w' ⟨rfl, hw⟩; subst w') | (with_reducible refine (New.ok64 _).mono ?_; rintro e' w1 ⟨gd, rfl, ⟨ga, gh, r⟩, hb⟩; have RA := Aside0.mk r; have HB := Aside0.mk hb; clear r hb))
    | (go_at_call 9; with_reducible refine (Arm.ok _ _ gd ga gh 64 _ _ RA.out rfl 2 (by decide) (by decide)).mono ?_; rintro e' w2 ⟨rfl, r, hb, hf⟩; rw [s1_eq] at r; have RB := Aside0.mk r; have n0 := Aside0.mk (HB.out.trans hb); clear HB RA r hb hf; have HB := n0; clear n0)
    | (go_at_call 24; with_reducible refine (all11 _).mono ?_; rintro e' w3 ⟨rfl, hb⟩; have n1 := Aside0.mk (RB.out.below hb); clear RB; have RB := n1; clear n1; have n0_ := Aside0.mk (below_step (by repeat (first | (with_reducible first | exact HB.out | apply below_alloc | apply pw_below_drewN | apply below_drew1) | exact HB.out)) hb); clear HB; have HB := n0_; clear n0_ hb)
    | (go_at_call 10; first | (with_reducible refine (Write.ok0 _ _ gd ga gh 64 _ s1 RB.out rfl (by decide) (by decide) (by decide) b11 rfl).mono ?_; rintro e' w4 ⟨rfl, bt4, r, hb, hf⟩; rw [s2_eq] at r; have RC := Aside0.mk r; have n0 := Aside0.mk (HB.out.trans hb); clear HB RB r hb hf; have HB := n0; clear n0) | (with_reducible refine (Write.bad _ _ gd ga gh 64 _ s4 (RE.out.below (by repeat (first | (with_reducible first | exact HE.out | apply below_alloc | apply pw_below_drewN | apply below_drew1) | exact HE.out))) rfl 64 (.inr (by decide)) x11 rfl).mono ?_; rintro e' w9 ⟨rfl, hb⟩; have n0_ := Aside0.mk (below_step (by repeat (first | (with_reducible first | exact HB.out | apply below_alloc | apply pw_below_drewN | apply below_drew1) | exact HB.out)) hb); clear HB; have HB := n0_; clear n0_ hb))
    | (go_at_call 11; with_reducible refine (Flush.ring _ _ gd ga gh 64 _ s2 RC.out rfl s2_al).mono ?_; rintro e' w5 ⟨rfl, r, hb, hf⟩; rw [s3_eq] at r; have RD := Aside0.mk r; have n0 := Aside0.mk (HB.out.trans hb); clear HB RC r hb hf; have HB := n0; clear n0)
    | (go_at_call 19; first | (with_reducible refine (Read.ok0 _ _ gd ga gh 64 _ s4 RE.out rfl).mono ?_; rintro e' w8 ⟨rfl, hb⟩; rw [s4_block]; have n0_ := Aside0.mk (below_step (by repeat (first | (with_reducible first | exact HB.out | apply below_alloc | apply pw_below_drewN | apply below_drew1) | exact HB.out)) hb); have n1_ := Aside0.mk (below_step (by repeat (first | (with_reducible first | exact HE.out | apply below_alloc | apply pw_below_drewN | apply below_drew1) | exact HE.out)) hb); clear HB HE; have HB := n0_; have HE := n1_; clear n0_ n1_ hb) | (with_reducible refine (Read.nightR _ _ gd ga gh 64 _ s3 RD.out rfl 0).mono ?_; rintro e' w6 ⟨rfl, hb⟩; have n1 := Aside0.mk (RD.out.below hb); clear RD; have RD := n1; clear n1; have n0_ := Aside0.mk (below_step (by repeat (first | (with_reducible first | exact HB.out | apply below_alloc | apply pw_below_drewN | apply below_drew1) | exact HB.out)) hb); clear HB; have HB := n0_; clear n0_ hb))
    | ((with_reducible refine gate_dst (N := 47) rfl ?_); (refine gate_guard (by rfl) ?_; dsimp only); refine mk_event rfl (N := 47) rfl (cs := #[.int .i64 3]) (t := 3) (n := 1) (pick3_run rfl _) ?_; intro gp hg w7 hbox hb; have BKp := Aside0.mk hbox; have n1 := Aside0.mk (RD.out.below hb); clear RD; have RD := n1; clear n1 hbox hg; have n0_ := Aside0.mk (below_step (by repeat (first | (with_reducible first | exact HB.out | apply below_alloc | apply pw_below_drewN | apply below_drew1) | exact HB.out)) hb); clear HB; have HB := n0_; clear n0_ hb)
    | (go_at_call 17; with_reducible refine (Crash.pick3 _ _ gd ga gh 64 _ s3 RD.out (by decide) gp BKp.out).mono ?_; rintro e' wc ⟨rfl, r, hb, hf⟩; rw [s4_eq] at r; have RE := Aside0.mk r; have n0 := Aside0.mk (HB.out.trans hb); clear HB RD BKp r hb hf; have HB := n0; have HE := Aside0.mk (Below.refl wc.heap.size wc); clear n0)
    | ((with_reducible refine gate_dst (N := 5) rfl ?_); refine box_event ?hg (N := 5) ?hd (cs := bcells zero64) (t := 29) ?hr ?_; (case hd => rfl); (case hg => rfl); (case hr => exact alloc29_run rfl _); intro gb hg w1b hbox hb; have Gb := Aside0.mk (show w.heap.size ≤ gb from by rw [hg]; exact below_size (by repeat (first | (with_reducible first | exact HB.out | apply below_alloc | apply pw_below_drewN | apply below_drew1) | exact HB.out))); have Eb := Aside0.mk (show wc.heap.size ≤ gb from by rw [hg]; exact below_size (by repeat (first | (with_reducible first | exact HE.out | apply below_alloc | apply pw_below_drewN | apply below_drew1) | exact HE.out))); have BKb := Aside0.mk hbox; clear hbox hg; have n0_ := Aside0.mk (below_step (by repeat (first | (with_reducible first | exact HB.out | apply below_alloc | apply pw_below_drewN | apply below_drew1) | exact HB.out)) hb); have n1_ := Aside0.mk (below_step (by repeat (first | (with_reducible first | exact HE.out | apply below_alloc | apply pw_below_drewN | apply below_drew1) | exact HE.out)) hb); clear HB HE; have HB := n0_; have HE := n1_; clear n0_ n1_ hb)
    | (refine wpList_store_row rfl 29 (.tmp 5) (.tmp 54) rfl gb (bcells x11) rfl (by rfl) 29 (bcells zero64) (by (with_reducible repeat (first | refine blk_drewN ?_ _ | refine blk_drew ?_ | refine blk_alloc ?_ _)); exact BKb.out) (seal_size _ (show x11.length = 64 from rfl)) (by rw [bcells_size, bcells_size, (show x11.length = 64 from rfl)]; rfl) (bcells_all _) ?_; have n5 := Aside0.mk (below_setRow (show Below wc.heap.size wc _ from by repeat (first | (with_reducible first | exact HE.out | apply below_alloc | apply pw_below_drewN | apply below_drew1) | exact HE.out)) (show wc.heap.size ≤ gb from Eb.out) (bcells x11)); have n0 := Aside0.mk (below_setRow (show Below w.heap.size w _ from by repeat (first | (with_reducible first | exact HB.out | apply below_alloc | apply pw_below_drewN | apply below_drew1) | exact HB.out)) (show w.heap.size ≤ gb from Gb.out) (bcells x11)); have n1 := Aside0.mk (setRow_heap _ _ _ (bcells x11) _ _ (by (with_reducible repeat (first | refine blk_drewN ?_ _ | refine blk_drew ?_ | refine blk_alloc ?_ _)); exact BKb.out)); generalize World.setRow _ _ _ = wz at n0 n1 n5; clear HE HB BKb; have HB := n0; have HE := n5; have BKb := n1; clear n0 n1 n5; have c0 : wz.cell? ⟨gb, 0, none⟩ = some (.int .u8 17) := (blk_cell BKb.out 0).trans rfl; have c31 : wz.cell? ⟨gb, 31, none⟩ = some (.int .u8 17) := (blk_cell BKb.out 31).trans rfl; have c32 : wz.cell? ⟨gb, 32, none⟩ = some (.int .u8 0) := (blk_cell BKb.out 32).trans rfl; have c63 : wz.cell? ⟨gb, 63, none⟩ = some (.int .u8 0) := (blk_cell BKb.out 63).trans rfl)
    | (go_at_call 13; with_reducible refine (Steps.R _ _ gd ga gh 64 _ s4 (RE.out.below (by repeat (first | (with_reducible first | exact HE.out | apply below_alloc | apply pw_below_drewN | apply below_drew1) | exact HE.out)))).mono ?_; rintro e' w' ⟨rfl, hw⟩; subst w')
    | ((with_reducible refine gate_dst (N := 85) rfl ?_); (refine gate_guard (by rfl) ?_; dsimp only); refine wpList_load_row rfl 29 (.tmp 5) rfl gb rfl 29 (bcells x11) (0, 0) _ (by (with_reducible repeat (first | refine blk_drewN ?_ _ | refine blk_drew ?_ | refine blk_alloc ?_ _)); exact BKb.out) Try.underlying29 rfl (seal_size _ (show x11.length = 64 from rfl)) ?_))
  go_ret
  exact ⟨rfl, by repeat (first | (with_reducible first | exact HB.out | apply below_alloc | apply pw_below_drewN | apply below_drew1) | exact HB.out)⟩
end Go.Proofs.Ytlnfdhcpnbhkdaa.GA
