/- Blocks in memory: loads, stores and copies of 64 bytes. No condition. -/
import Derived.Test.YtlnfdhcpnbhkdaaE23
import Derived.Laws.CopyOwn
import Derived.ChangeKeysEq
import Derived.Deep.RegionHeld3
import Derived.Deep.MidRow
import Derived.Great.Walk
namespace Go.Proofs.Ytlnfdhcpnbhkdaa.GA.E
open Go.RowKit Go.Proofs.YtlnfdhcpnbhkdaaW.PrintWords Go.Proofs.YtlnfdhcpnbhkdaaW.PrintLast Go.Proofs.YtlnfdhcpnbhkdaaW.PrintMore
set_option linter.unusedVariables false
set_option linter.unusedSimpArgs false


theorem int_snoc {B : Nat} {w : World} {v : Value} {i : Nat} {x : Int} (h : (Kd.int .i64).R 3 w B (fun _ => True) v (List.replicate i x ++ [x])) : IntOwn B w v (List.replicate (i + 1) x) := by
  rw [← List.replicate_succ'] at h
  exact h
theorem crashE_ni (s : DS) (n : Nat) (p : List Int) : (s.crashE n p).ni = false := rfl
set_option maxHeartbeats 32000000 in
set_option maxRecDepth 100000 in
theorem diskAll.calls (w : World) (A0 : Option Addr) (c0 : Nat) (l0 : List (Int × List Int)) (A1 : Option Addr) (c1 : Nat) (l1 : List (Int × List Int)) (h0 : kPut.C w A0 l0.length l0) (w0 : ∀ x ∈ l0, 0 ≤ x.1 ∧ x.1 < 256) (h1 : kPut.C w A1 l1.length l1) (w1 : ∀ x ∈ l1, 0 ≤ x.1 ∧ x.1 < 256) :
    Calls Try.prog 5 #[.slice A0 l0.length c0, .slice A1 l1.length c1] w fun e' w' => e' = .returned (.bool true) ∧ Below w.heap.size w w' := by
  have HP0 := Aside0.mk h0
  have HP1 := Aside0.mk h1
  have HW0 := Aside0.mk w0
  have HW1 := Aside0.mk w1
  clear h0 h1 w0 w1
  go_enter Try.func5, Try.ntmps5
  go_upto_region 8 with (first
    | (go_at_call 8; with_reducible refine (GA.New.ok64 _).mono ?_; rintro e' w1 ⟨gd, rfl, ⟨ga, gh, r⟩, hb⟩; rw [s0_eq] at r; have RA := Aside0.mk r; have HB := Aside0.mk hb; clear r hb)
    | ((with_reducible refine gate_dst (N := 33) rfl ?_); refine wpList_build38 rfl rfl ?_)
    | (go_at_call 15; first | (with_reducible refine (puts.calls _ _ gd ga gh _ _ RC.out A1 c1 l1 ((fun w' hw => Kd.C_below HP1.out (HB.out.trans hw))) HW1.out (0 + 41) 8 (by decide) (by decide) X1 (P2.out.again RB0.out.1 RB0.out.2.1 RB0.out.2.2 HK2.out 8)).mono ?_; rintro e' w4 ⟨X2, rfl, ⟨bt4, s4, k4, hk4, r4, p4⟩, hb, hf⟩; have RD := Aside0.mk r4; have LH4 := Aside0.mk r4.lh; have OK4 := Aside0.mk r4.ok; have P4 := Aside0.mk p4; have HK4 := Aside0.mk hk4; have LX2 := Aside0.mk p4.lx; have n0 := Aside0.mk (HB.out.trans hb); have n1 := Aside0.mk (Fr.get hf BKe.out (by decide) (by decide) (by decide)); have HE := Aside0.mk (Below.refl w4.heap.size w4); clear HB BKe RC r4 p4 hk4 hb hf; have HB := n0; have BKe := n1; clear n0 n1) | (with_reducible refine (puts.calls _ _ gd ga gh _ s0 RA.out A0 c0 l0 ((fun w' hw => Kd.C_below HP0.out (HB.out.trans hw))) HW0.out 0 8 (Int.le_refl 0) (by decide) (zerosN 8) (PI.start 8)).mono ?_; rintro e' w2 ⟨X1, rfl, ⟨bt2, s2, k2, hk2, r2, p2⟩, hb, hf⟩; have RB := Aside0.mk r2; have P2 := Aside0.mk p2; have HK2 := Aside0.mk hk2; have LX1 := Aside0.mk p2.lx; have n0 := Aside0.mk (HB.out.trans hb); have HE := Aside0.mk (Below.refl w2.heap.size w2); clear HB RA r2 p2 hk2 hb hf; have HB := n0; clear n0))
    | ((with_reducible refine gate_dst (N := 7) rfl ?_); refine box_event ?hg (N := 7) ?hd (cs := bcells (zerosN 8)) (t := 38) ?hr ?_; (case hd => rfl); (case hg => rfl); (case hr => exact alloc38_run rfl _); intro ge hg w1e hbox hb; have Ge := Aside0.mk (show w.heap.size ≤ ge from by rw [hg]; exact below_size (by repeat (first | (with_reducible first | exact HB.out | apply below_alloc | apply pw_below_drewN | apply below_drew1) | exact HB.out))); have Ee := Aside0.mk (show w2.heap.size ≤ ge from by rw [hg]; exact below_size (by repeat (first | (with_reducible first | exact HE.out | apply below_alloc | apply pw_below_drewN | apply below_drew1) | exact HE.out))); have BKe := Aside0.mk hbox; clear hbox hg; have n0_ := Aside0.mk (below_step (by repeat (first | (with_reducible first | exact HB.out | apply below_alloc | apply pw_below_drewN | apply below_drew1) | exact HB.out)) hb); have n1_ := Aside0.mk (below_step (by repeat (first | (with_reducible first | exact HE.out | apply below_alloc | apply pw_below_drewN | apply below_drew1) | exact HE.out)) hb); clear HB HE; have HB := n0_; have HE := n1_; clear n0_ n1_ hb)
    | (refine wpList_store_row rfl 38 (.tmp 7) (.tmp 35) rfl ge (bcells X1) rfl (by rfl) 38 (bcells (zerosN 8)) (by first | exact BKe.out | ((with_reducible repeat (first | refine blk_drewN ?_ _ | refine blk_drew ?_ | refine blk_alloc ?_ _)); exact BKe.out)) (size38 _ LX1.out) (by rw [bcells_size, bcells_size, LX1.out]; rfl) (bcells_all _) ?_; have n0 := Aside0.mk (below_setRow (show Below w.heap.size w _ from by repeat (first | (with_reducible first | exact HB.out | apply below_alloc | apply pw_below_drewN | apply below_drew1) | exact HB.out)) (show w.heap.size ≤ ge from Ge.out) (bcells X1)); have n5 := Aside0.mk (below_setRow (show Below w2.heap.size w2 _ from by repeat (first | (with_reducible first | exact HE.out | apply below_alloc | apply pw_below_drewN | apply below_drew1) | exact HE.out)) (show w2.heap.size ≤ ge from Ee.out) (bcells X1)); have n1 := Aside0.mk (setRow_heap _ _ _ (bcells X1) _ _ (by first | exact BKe.out | ((with_reducible repeat (first | refine blk_drewN ?_ _ | refine blk_drew ?_ | refine blk_alloc ?_ _)); exact BKe.out))); generalize World.setRow _ _ _ = w3 at n0 n1 n5; clear HB HE BKe; have HB := n0; have HE := n5; have BKe := n1; have RB0 := Aside0.mk (show s2.asked.length = 64 * 64 ∧ s2.held.length = 64 * 64 ∧ ∀ x ∈ s2.btw, 0 ≤ x.1 ∧ x.1 < 64 from ⟨RB.out.la, RB.out.lh, fun x hx => ⟨(RB.out.ok x hx).1, (RB.out.ok x hx).2.1⟩⟩); clear n0 n1 n5)
    | (go_at_call 11; with_reducible refine (GA.Flush.ok _ _ gd ga gh 64 _ s2 (RB.out.below (by repeat (first | (with_reducible first | exact HE.out | apply below_alloc | apply pw_below_drewN | apply below_drew1) | exact HE.out))) P2.out.ni (by rw [P2.out.al]; decide) (by have := P2.out.st; have := HK2.out; omega) (by have := P2.out.len; have := HK2.out; omega)).mono ?_; rintro e' w5 ⟨rfl, r, hb, hf⟩; have RC := Aside0.mk r; have n0 := Aside0.mk (HB.out.trans hb); have n1 := Aside0.mk (Fr.get hf BKe.out (by decide) (by decide) (by decide)); clear HB BKe HE RB r hb hf; have HB := n0; have BKe := n1; clear n0 n1)
    | ((with_reducible refine gate_dst (N := 47) rfl ?_); refine wpList_load_row rfl 38 (.tmp 7) rfl ge rfl 38 (bcells X1) (0, 0) _ (by first | exact BKe.out | ((with_reducible repeat (first | refine blk_drewN ?_ _ | refine blk_drew ?_ | refine blk_alloc ?_ _)); exact BKe.out)) Try.underlying38 rfl (size38 _ LX1.out) ?_)
    | ((with_reducible refine gate_dst (N := 9) rfl ?_); refine box_event ?hg (N := 9) ?hd (cs := bcells (zerosN 8)) (t := 38) ?hr ?_; (case hd => rfl); (case hg => rfl); (case hr => exact alloc38_run rfl _); intro gl hg w1l hbox hb; have Gl := Aside0.mk (show w.heap.size ≤ gl from by rw [hg]; exact below_size (by repeat (first | (with_reducible first | exact HB.out | apply below_alloc | apply pw_below_drewN | apply below_drew1) | exact HB.out))); have NEel := Aside0.mk (show ge ≠ gl from by rw [hg]; exact Nat.ne_of_lt (blk_lt (by first | exact BKe.out | ((with_reducible repeat (first | refine blk_drewN ?_ _ | refine blk_drew ?_ | refine blk_alloc ?_ _)); exact BKe.out)))); have El := Aside0.mk (show w4.heap.size ≤ gl from by rw [hg]; exact below_size (by repeat (first | (with_reducible first | exact HE.out | apply below_alloc | apply pw_below_drewN | apply below_drew1) | exact HE.out))); have BKl := Aside0.mk hbox; clear hbox hg; have n0_ := Aside0.mk (below_step (by repeat (first | (with_reducible first | exact HB.out | apply below_alloc | apply pw_below_drewN | apply below_drew1) | exact HB.out)) hb); have n1_ := Aside0.mk (below_step (by repeat (first | (with_reducible first | exact HE.out | apply below_alloc | apply pw_below_drewN | apply below_drew1) | exact HE.out)) hb); (first | have n2_ := Aside0.mk (blk_below BKe.out hb) | have n2_ := Aside0.mk (blk_below (blk_drewN BKe.out _) hb) | have n2_ := Aside0.mk (blk_below (blk_drew BKe.out) hb) | have n2_ := Aside0.mk (blk_below (blk_alloc BKe.out _) hb) | have n2_ := Aside0.mk (blk_below (by first | exact BKe.out | ((with_reducible repeat (first | refine blk_drewN ?_ _ | refine blk_drew ?_ | refine blk_alloc ?_ _)); exact BKe.out)) hb)); clear HB HE BKe; have HB := n0_; have HE := n1_; have BKe := n2_; clear n0_ n1_ n2_ hb)
    | (refine wpList_store_row rfl 38 (.tmp 9) (.tmp 49) rfl gl (bcells X2) rfl (by rfl) 38 (bcells (zerosN 8)) (by first | exact BKl.out | ((with_reducible repeat (first | refine blk_drewN ?_ _ | refine blk_drew ?_ | refine blk_alloc ?_ _)); exact BKl.out)) (size38 _ LX2.out) (by rw [bcells_size, bcells_size, LX2.out]; rfl) (bcells_all _) ?_; have n0 := Aside0.mk (below_setRow (show Below w.heap.size w _ from by repeat (first | (with_reducible first | exact HB.out | apply below_alloc | apply pw_below_drewN | apply below_drew1) | exact HB.out)) (show w.heap.size ≤ gl from Gl.out) (bcells X2)); have n5 := Aside0.mk (below_setRow (show Below w4.heap.size w4 _ from by repeat (first | (with_reducible first | exact HE.out | apply below_alloc | apply pw_below_drewN | apply below_drew1) | exact HE.out)) (show w4.heap.size ≤ gl from El.out) (bcells X2)); have n1 := Aside0.mk (setRow_heap _ _ _ (bcells X2) _ _ (by first | exact BKl.out | ((with_reducible repeat (first | refine blk_drewN ?_ _ | refine blk_drew ?_ | refine blk_alloc ?_ _)); exact BKl.out))); have ke := Aside0.mk ((setRow_other _ gl ge (bcells X2) NEel.out).trans (by first | exact BKe.out | ((with_reducible repeat (first | refine blk_drewN ?_ _ | refine blk_drew ?_ | refine blk_alloc ?_ _)); exact BKe.out))); generalize World.setRow _ _ _ = w3 at n0 n1 n5 ke; clear HB HE BKl; have HB := n0; have HE := n5; have BKl := n1; clear BKe; have BKe := ke; clear ke; clear n0 n1 n5))
  go_wp2_with (go_at_call 20; first | (have U13 := Aside0.mk (show g1 < _ ∧ a1 < _ ∧ h1 < _ from ⟨blk_lt R1.out.d, blk_lt R1.out.a, blk_lt R1.out.h⟩); have U23 := Aside0.mk (show g2 < _ ∧ a2 < _ ∧ h2 < _ from ⟨blk_lt R2.out.d, blk_lt R2.out.a, blk_lt R2.out.h⟩); with_reducible refine (Copy.calls _ _ gd ga gh 64 64 64 _ s4 RE.out (by decide) (by have := P4.out.len; have := HK4.out; omega)).mono ?_; rintro e' wv3 ⟨g3, rfl, ⟨a3, h3, ca3, ch3, bt3, t3, rr, sm⟩, hb⟩; have LA3 := Aside0.mk rr.la; have LH3' := Aside0.mk rr.lh; have V3 := Aside0.mk (below_size (by repeat (first | (with_reducible first | exact HB.out | apply below_alloc | apply pw_below_drewN | apply below_drew1) | exact HB.out))); have n_RE := Aside0.mk (RE.out.below hb); clear RE; have RE := n_RE; clear n_RE; have n_R1 := Aside0.mk (R1.out.below hb); clear R1; have R1 := n_R1; clear n_R1; have n_R2 := Aside0.mk (R2.out.below hb); clear R2; have R2 := n_R2; clear n_R2; have n0_ := Aside0.mk (below_step (by repeat (first | (with_reducible first | exact HB.out | apply below_alloc | apply pw_below_drewN | apply below_drew1) | exact HB.out)) hb); (first | have n1_ := Aside0.mk (blk_below BKe.out hb) | have n1_ := Aside0.mk (blk_below (blk_drewN BKe.out _) hb) | have n1_ := Aside0.mk (blk_below (blk_drew BKe.out) hb) | have n1_ := Aside0.mk (blk_below (blk_alloc BKe.out _) hb) | have n1_ := Aside0.mk (blk_below (by first | exact BKe.out | ((with_reducible repeat (first | refine blk_drewN ?_ _ | refine blk_drew ?_ | refine blk_alloc ?_ _)); exact BKe.out)) hb)); (first | have n2_ := Aside0.mk (blk_below BKl.out hb) | have n2_ := Aside0.mk (blk_below (blk_drewN BKl.out _) hb) | have n2_ := Aside0.mk (blk_below (blk_drew BKl.out) hb) | have n2_ := Aside0.mk (blk_below (blk_alloc BKl.out _) hb) | have n2_ := Aside0.mk (blk_below (by first | exact BKl.out | ((with_reducible repeat (first | refine blk_drewN ?_ _ | refine blk_drew ?_ | refine blk_alloc ?_ _)); exact BKl.out)) hb)); clear HB BKe BKl; have HB := n0_; have BKe := n1_; have BKl := n2_; clear n0_ n1_ n2_ hb; have R3 := Aside0.mk rr; have M3 := Aside0.mk sm; clear rr sm) | (have U12 := Aside0.mk (show g1 < _ ∧ a1 < _ ∧ h1 < _ from ⟨blk_lt R1.out.d, blk_lt R1.out.a, blk_lt R1.out.h⟩); with_reducible refine (Copy.calls _ _ gd ga gh 64 64 64 _ s4 RE.out (by decide) (by have := P4.out.len; have := HK4.out; omega)).mono ?_; rintro e' wv2 ⟨g2, rfl, ⟨a2, h2, ca2, ch2, bt2, t2, rr, sm⟩, hb⟩; have LA2 := Aside0.mk rr.la; have LH2' := Aside0.mk rr.lh; have V2 := Aside0.mk (below_size (by repeat (first | (with_reducible first | exact HB.out | apply below_alloc | apply pw_below_drewN | apply below_drew1) | exact HB.out))); have n_RE := Aside0.mk (RE.out.below hb); clear RE; have RE := n_RE; clear n_RE; have n_R1 := Aside0.mk (R1.out.below hb); clear R1; have R1 := n_R1; clear n_R1; have n0_ := Aside0.mk (below_step (by repeat (first | (with_reducible first | exact HB.out | apply below_alloc | apply pw_below_drewN | apply below_drew1) | exact HB.out)) hb); (first | have n1_ := Aside0.mk (blk_below BKe.out hb) | have n1_ := Aside0.mk (blk_below (blk_drewN BKe.out _) hb) | have n1_ := Aside0.mk (blk_below (blk_drew BKe.out) hb) | have n1_ := Aside0.mk (blk_below (blk_alloc BKe.out _) hb) | have n1_ := Aside0.mk (blk_below (by first | exact BKe.out | ((with_reducible repeat (first | refine blk_drewN ?_ _ | refine blk_drew ?_ | refine blk_alloc ?_ _)); exact BKe.out)) hb)); (first | have n2_ := Aside0.mk (blk_below BKl.out hb) | have n2_ := Aside0.mk (blk_below (blk_drewN BKl.out _) hb) | have n2_ := Aside0.mk (blk_below (blk_drew BKl.out) hb) | have n2_ := Aside0.mk (blk_below (blk_alloc BKl.out _) hb) | have n2_ := Aside0.mk (blk_below (by first | exact BKl.out | ((with_reducible repeat (first | refine blk_drewN ?_ _ | refine blk_drew ?_ | refine blk_alloc ?_ _)); exact BKl.out)) hb)); clear HB BKe BKl; have HB := n0_; have BKe := n1_; have BKl := n2_; clear n0_ n1_ n2_ hb; have R2 := Aside0.mk rr; have M2 := Aside0.mk sm; clear rr sm) | (have RE := Aside0.mk ((RD.out.below (by repeat (first | (with_reducible first | exact HE.out | apply below_alloc | apply pw_below_drewN | apply below_drew1) | exact HE.out))).toE); clear RD HE; with_reducible refine (Copy.calls _ _ gd ga gh 64 64 64 _ s4 RE.out (by decide) (by have := P4.out.len; have := HK4.out; omega)).mono ?_; rintro e' wv1 ⟨g1, rfl, ⟨a1, h1, ca1, ch1, bt1, t1, rr, sm⟩, hb⟩; have LA1 := Aside0.mk rr.la; have LH1' := Aside0.mk rr.lh; have V1 := Aside0.mk (below_size (by repeat (first | (with_reducible first | exact HB.out | apply below_alloc | apply pw_below_drewN | apply below_drew1) | exact HB.out))); have n_RE := Aside0.mk (RE.out.below hb); clear RE; have RE := n_RE; clear n_RE; have n0_ := Aside0.mk (below_step (by repeat (first | (with_reducible first | exact HB.out | apply below_alloc | apply pw_below_drewN | apply below_drew1) | exact HB.out)) hb); (first | have n1_ := Aside0.mk (blk_below BKe.out hb) | have n1_ := Aside0.mk (blk_below (blk_drewN BKe.out _) hb) | have n1_ := Aside0.mk (blk_below (blk_drew BKe.out) hb) | have n1_ := Aside0.mk (blk_below (blk_alloc BKe.out _) hb) | have n1_ := Aside0.mk (blk_below (by first | exact BKe.out | ((with_reducible repeat (first | refine blk_drewN ?_ _ | refine blk_drew ?_ | refine blk_alloc ?_ _)); exact BKe.out)) hb)); (first | have n2_ := Aside0.mk (blk_below BKl.out hb) | have n2_ := Aside0.mk (blk_below (blk_drewN BKl.out _) hb) | have n2_ := Aside0.mk (blk_below (blk_drew BKl.out) hb) | have n2_ := Aside0.mk (blk_below (blk_alloc BKl.out _) hb) | have n2_ := Aside0.mk (blk_below (by first | exact BKl.out | ((with_reducible repeat (first | refine blk_drewN ?_ _ | refine blk_drew ?_ | refine blk_alloc ?_ _)); exact BKl.out)) hb)); clear HB BKe BKl; have HB := n0_; have BKe := n1_; have BKl := n2_; clear n0_ n1_ n2_ hb; have R1 := Aside0.mk rr; have M1 := Aside0.mk sm; clear rr sm))
  have ML := Aside0.mk (show s4.btw.length ≤ 40 from by have := P4.out.len; have := HK4.out; omega)
  go_loopw [15, 13, 14] (fun v15 v13 v14 w' => ∃ i : Nat, i ≤ s4.btw.length ∧ v15 = .int .i64 i ∧ Aside0 (IntOwn w.heap.size w' v13 (List.replicate i 64)) ∧ Aside0 (IntOwn w.heap.size w' v14 (List.replicate i 1)) ∧ Aside0 (Apart v13 v14) ∧ Aside0 (Rep w.heap.size w' gd ga gh 64 64 64 bt4 s4) ∧ Aside0 (Rep w3.heap.size w' g1 a1 h1 64 ca1 ch1 bt1 t1) ∧ Aside0 (Rep wv1.heap.size w' g2 a2 h2 64 ca2 ch2 bt2 t2) ∧ Aside0 (Rep wv2.heap.size w' g3 a3 h3 64 ca3 ch3 bt3 t3) ∧ Aside0 (w'.heap[ge]? = some (.cells (bcells X1) 38 (0, 0))) ∧ Aside0 (w'.heap[gl]? = some (.cells (bcells X2) 38 (0, 0))) ∧ Aside0 (Below w.heap.size w w')) (fun v15 _ _ _ => s4.btw.length - (intOf v15).toNat)
  case atStart => exact ⟨0, Nat.zero_le _, rfl, ⟨Kd.R_nil _ _ _ _ _⟩, ⟨Kd.R_nil _ _ _ _ _⟩, ⟨fun k hk => by simp [Value.ownBlock] at hk⟩, RE, R1, R2, R3, BKe, BKl, HB⟩
  case round =>
    clear RE R1 R2 R3 BKe BKl HB
    obtain ⟨i, hi, rfl, I13, I14, AP, RE, R1, R2, R3, BKe, BKl, HB⟩ := hrel
    by_cases hlt : i < s4.btw.length
    · have k3 : wrap64 ((i : Int) + 1) = (i : Int) + 1 := by have := ML.out; unfold wrap64; omega
      have i2 : (i : Int) < (s4.btw.length : Int) := by omega
      have PL64 := Aside0.mk (show ((List.replicate i (64 : Int)).length + 1) * 8 ≤ 140737488355328 from by rw [List.length_replicate]; have := ML.out; omega)
      have PL1 := Aside0.mk (show ((List.replicate i (1 : Int)).length + 1) * 8 ≤ 140737488355328 from by rw [List.length_replicate]; have := ML.out; omega)
      go_upto_region 13 with (go_at_call 16; with_reducible refine (Loose.is _ _ gd ga gh 64 64 64 _ s4 RE.out).mono ?_; rintro e' w' ⟨rfl, hw⟩; subst w')
      go_upto_region 14 with ((with_reducible refine gate_builtin (b := .append) (xs := #[.tmp 63, .tmp 64]) rfl ?_); at_builtin; refine Kd.R_append (Kd.int .i64) (w0 := w) w.heap.size rfl (.tmp 63) (.tmp 64) 37 3 (.int .i64 0) 8 rfl Try.underlying37 info3 rfl (by decide) (by omega) u13 (List.replicate i 64) (64 : Int) [.int .i64 64] (fun _ => True) (fun _ => False) rfl rfl ?aP (fun _ hk => hk.elim) ?aF ?aO ?aB ?aS ?aL ?_; (case aP => exact rfl); (case aB => exact HB.out); (case aF => exact (fun _ _ => trivial)); (case aO => exact I13.out); (case aS => exact (below_size HB.out)); (case aL => exact PL64.out); intro x64 w18 ho hb hg hat; have n_RE := Aside0.mk (RE.out.grown I13.out hg); have n_R1 := Aside0.mk (R1.out.grown I13.out hg); have n_R2 := Aside0.mk (R2.out.grown I13.out hg); have n_R3 := Aside0.mk (R3.out.grown I13.out hg); have n_BKe := Aside0.mk (blk_grown (g := ge) BKe.out hg (Kd.R_ne I13.out BKe.out (by decide))); have n_BKl := Aside0.mk (blk_grown (g := gl) BKl.out hg (Kd.R_ne I13.out BKl.out (by decide))); have n_o := Aside0.mk (IntOwn.grown I14.out (AP.out) hg); have n_a := Aside0.mk (Apart.grown (w' := w18) (AP.out) I14.out hat); have n_s := Aside0.mk (int_snoc ho); clear RE R1 R2 R3 BKe BKl HB I13 I14 AP ho hg hat; have HB := Aside0.mk hb; have RE := n_RE; have R1 := n_R1; have R2 := n_R2; have R3 := n_R3; have BKe := n_BKe; have BKl := n_BKl; have I14 := n_o; have I13 := n_s; have AP := Aside0.mk (n_a.out); clear hb n_o n_s n_a n_RE n_R1 n_R2 n_R3 n_BKe n_BKl)
      go_wp2_with ((with_reducible refine gate_builtin (b := .append) (xs := #[.tmp 66, .tmp 67]) rfl ?_); at_builtin; refine Kd.R_append (Kd.int .i64) (w0 := w) w.heap.size rfl (.tmp 66) (.tmp 67) 37 3 (.int .i64 0) 8 rfl Try.underlying37 info3 rfl (by decide) (by omega) u14 (List.replicate i 1) (1 : Int) [.int .i64 1] (fun _ => True) (fun _ => False) rfl rfl ?aP (fun _ hk => hk.elim) ?aF ?aO ?aB ?aS ?aL ?_; (case aP => exact rfl); (case aB => exact HB.out); (case aF => exact (fun _ _ => trivial)); (case aO => exact I14.out); (case aS => exact (below_size HB.out)); (case aL => exact PL1.out); intro x1 w18 ho hb hg hat; have n_RE := Aside0.mk (RE.out.grown I14.out hg); have n_R1 := Aside0.mk (R1.out.grown I14.out hg); have n_R2 := Aside0.mk (R2.out.grown I14.out hg); have n_R3 := Aside0.mk (R3.out.grown I14.out hg); have n_BKe := Aside0.mk (blk_grown (g := ge) BKe.out hg (Kd.R_ne I14.out BKe.out (by decide))); have n_BKl := Aside0.mk (blk_grown (g := gl) BKl.out hg (Kd.R_ne I14.out BKl.out (by decide))); have n_o := Aside0.mk (IntOwn.grown I13.out (AP.out.symm) hg); have n_a := Aside0.mk (Apart.grown (w' := w18) (AP.out.symm) I13.out hat); have n_s := Aside0.mk (int_snoc ho); clear RE R1 R2 R3 BKe BKl HB I14 I13 AP ho hg hat; have HB := Aside0.mk hb; have RE := n_RE; have R1 := n_R1; have R2 := n_R2; have R3 := n_R3; have BKe := n_BKe; have BKl := n_BKl; have I13 := n_o; have I14 := n_s; have AP := Aside0.mk (n_a.out.symm); clear hb n_o n_s n_a n_RE n_R1 n_R2 n_R3 n_BKe n_BKl)
      exact ⟨⟨i + 1, hlt, by first | rfl | (rw [Int.natCast_add]; rfl) | (rw [k3, Int.natCast_add]; rfl), I13, I14, AP, RE, R1, R2, R3, BKe, BKl, HB⟩, by (try rw [k3]); show s4.btw.length - ((i : Int) + 1).toNat < s4.btw.length - ((i : Int)).toNat; omega⟩
    · have hin : i = s4.btw.length := by omega
      subst hin
      obtain ⟨A13, c13, e13⟩ := IntOwn.C I13.out
      obtain ⟨A14, c14, e14⟩ := IntOwn.C I14.out
      subst e13
      subst e14
      have CN1 := Aside0.mk (crashE_ni t1 64 (List.replicate s4.btw.length 64))
      have CN2 := Aside0.mk (crashE_ni t2 64 [])
      have CN3 := Aside0.mk (crashE_ni t3 64 (List.replicate s4.btw.length 1))
      have MO1 := Aside0.mk ((morning P4.out LH4.out OK4.out M1.out LA1.out LH1'.out).1 (List.replicate s4.btw.length 64) (fun k hk => rd_rep _ 64 k hk))
      have MO2 := Aside0.mk (morning P4.out LH4.out OK4.out M2.out LA2.out LH2'.out).2.1
      have MO3 := Aside0.mk ((morning P4.out LH4.out OK4.out M3.out LA3.out LH3'.out).2.2 (List.replicate s4.btw.length 1) (fun k hk => rd_rep _ 1 k hk))
      go_wp2_with (first
        | (go_at_call 16; with_reducible refine (Loose.is _ _ gd ga gh 64 64 64 _ s4 RE.out).mono ?_; rintro e' w' ⟨rfl, hw⟩; subst w')
        | (go_at_call 17; first | (with_reducible refine (Crash.reps _ _ g1 a1 h1 64 ca1 ch1 _ t1 R1.out (by rw [M1.out.btw]; have := P4.out.len; have := HK4.out; omega) w.heap.size A13 c13 s4.btw.length 64 I13.out).mono ?_; rintro e' wc1 ⟨rfl, r, hb, hf⟩; have n_e := Aside0.mk (bk_fx BKe.out R1.out hf); have n_l := Aside0.mk (bk_fx BKl.out R1.out hf); have n_2 := Aside0.mk (R2.out.fx hf U12.out.1 U12.out.2.1 U12.out.2.2); have n_3 := Aside0.mk (R3.out.fx hf U13.out.1 U13.out.2.1 U13.out.2.2); have n_i := Aside0.mk (I14.out.fx R1.out hf); clear R2 R3 I13 I14 R1; have R2 := n_2; have R3 := n_3; have I14 := n_i; have R1 := Aside0.mk r; have n_b := Aside0.mk (HB.out.trans (below_of_le V1.out hb)); clear HB BKe BKl r hb hf; have HB := n_b; have BKe := n_e; have BKl := n_l; clear n_b n_e n_l) | (with_reducible refine (Crash.nil _ _ g2 a2 h2 64 ca2 ch2 _ t2 R2.out (by rw [M2.out.btw]; have := P4.out.len; have := HK4.out; omega)).mono ?_; rintro e' wc2 ⟨rfl, r, hb, hf⟩; have n_e := Aside0.mk (bk_fx BKe.out R2.out hf); have n_l := Aside0.mk (bk_fx BKl.out R2.out hf); have n_1 := Aside0.mk (R1.out.low hb U12.out.1 U12.out.2.1 U12.out.2.2); have n_3 := Aside0.mk (R3.out.fx hf U23.out.1 U23.out.2.1 U23.out.2.2); have n_i := Aside0.mk (I14.out.fx R2.out hf); clear R1 R3 I14 R2; have R1 := n_1; have R3 := n_3; have I14 := n_i; have R2 := Aside0.mk r; have n_b := Aside0.mk (HB.out.trans (below_of_le V2.out hb)); clear HB BKe BKl r hb hf; have HB := n_b; have BKe := n_e; have BKl := n_l; clear n_b n_e n_l) | (with_reducible refine (Crash.reps _ _ g3 a3 h3 64 ca3 ch3 _ t3 R3.out (by rw [M3.out.btw]; have := P4.out.len; have := HK4.out; omega) w.heap.size A14 c14 s4.btw.length 1 I14.out).mono ?_; rintro e' wc3 ⟨rfl, r, hb, hf⟩; have n_e := Aside0.mk (bk_fx BKe.out R3.out hf); have n_l := Aside0.mk (bk_fx BKl.out R3.out hf); have n_1 := Aside0.mk (R1.out.low hb U13.out.1 U13.out.2.1 U13.out.2.2); have n_2 := Aside0.mk (R2.out.low hb U23.out.1 U23.out.2.1 U23.out.2.2); clear R1 R2 I14 R3; have R1 := n_1; have R2 := n_2; have R3 := Aside0.mk r; have HE := Aside0.mk (Below.refl wc3.heap.size wc3); have n_b := Aside0.mk (HB.out.trans (below_of_le V3.out hb)); clear HB BKe BKl r hb hf; have HB := n_b; have BKe := n_e; have BKl := n_l; clear n_b n_e n_l)))
      go_loopw [16] (fun v16 w' => ∃ j : Nat, j ≤ 8 ∧ v16 = .int .i64 j ∧ Aside0 (Below w.heap.size w w') ∧ Aside0 (Below wc3.heap.size wc3 w') ∧ Aside0 (w'.heap[ge]? = some (.cells (bcells X1) 38 (0, 0))) ∧ Aside0 (w'.heap[gl]? = some (.cells (bcells X2) 38 (0, 0)))) (fun v16 _ => 8 - (intOf v16).toNat)
      case atStart => exact ⟨0, by decide, rfl, HB, HE, BKe, BKl⟩
      case round =>
        clear HB HE BKe BKl
        obtain ⟨j, hj, rfl, HB, HE, BKe, BKl⟩ := hrel
        by_cases hjl : j < 8
        · have HJ := Aside0.mk (show j < 64 by omega)
          have HJ8 := Aside0.mk hjl
          have j2 : (j : Int) < 8 := by omega
          have j0 : (0 : Int) ≤ (j : Int) := Int.natCast_nonneg j
          have k4 : wrap64 ((j : Int) + 1) = (j : Int) + 1 := by unfold wrap64; omega
          have L1 := Aside0.mk (GA.blkAt_len X2 j 8 LX2.out hjl)
          have L2 := Aside0.mk (GA.blkAt_len X1 j 8 LX1.out hjl)
          have L3 := Aside0.mk (blkAt_len (t3.crashE 64 (List.replicate s4.btw.length 1)).asked j 64 R3.out.la HJ.out)
          have TK := MO3.out j hjl
          have MJ1 := Aside0.mk (MO1.out j hjl)
          have MJ2 := Aside0.mk (MO2.out j hjl)
          have TKd := Aside0.mk TK
          clear TK
          go_upto_region 23 with (first
            | (go_at_call 19; first | (with_reducible refine (Read.is _ _ g1 a1 h1 64 ca1 ch1 _ _ (R1.out.below (by repeat (first | (with_reducible first | exact HE.out | apply below_alloc | apply pw_below_drewN | apply below_drew1) | exact HE.out))) CN1.out j HJ.out (blkAt X2 j) MJ1.out).mono ?_; rintro e' w' ⟨rfl, hb⟩; have n0_ := Aside0.mk (below_step (by repeat (first | (with_reducible first | exact HB.out | apply below_alloc | apply pw_below_drewN | apply below_drew1) | exact HB.out)) hb); have n1_ := Aside0.mk (below_step (by repeat (first | (with_reducible first | exact HE.out | apply below_alloc | apply pw_below_drewN | apply below_drew1) | exact HE.out)) hb); (first | have n2_ := Aside0.mk (blk_below BKe.out hb) | have n2_ := Aside0.mk (blk_below (blk_drewN BKe.out _) hb) | have n2_ := Aside0.mk (blk_below (blk_drew BKe.out) hb) | have n2_ := Aside0.mk (blk_below (blk_alloc BKe.out _) hb) | have n2_ := Aside0.mk (blk_below (by first | exact BKe.out | ((with_reducible repeat (first | refine blk_drewN ?_ _ | refine blk_drew ?_ | refine blk_alloc ?_ _)); exact BKe.out)) hb)); (first | have n3_ := Aside0.mk (blk_below BKl.out hb) | have n3_ := Aside0.mk (blk_below (blk_drewN BKl.out _) hb) | have n3_ := Aside0.mk (blk_below (blk_drew BKl.out) hb) | have n3_ := Aside0.mk (blk_below (blk_alloc BKl.out _) hb) | have n3_ := Aside0.mk (blk_below (by first | exact BKl.out | ((with_reducible repeat (first | refine blk_drewN ?_ _ | refine blk_drew ?_ | refine blk_alloc ?_ _)); exact BKl.out)) hb)); clear HB HE BKe BKl; have HB := n0_; have HE := n1_; have BKe := n2_; have BKl := n3_; clear n0_ n1_ n2_ n3_ hb) | (with_reducible refine (Read.is _ _ g2 a2 h2 64 ca2 ch2 _ _ (R2.out.below (by repeat (first | (with_reducible first | exact HE.out | apply below_alloc | apply pw_below_drewN | apply below_drew1) | exact HE.out))) CN2.out j HJ.out (blkAt X1 j) MJ2.out).mono ?_; rintro e' w' ⟨rfl, hb⟩; have n0_ := Aside0.mk (below_step (by repeat (first | (with_reducible first | exact HB.out | apply below_alloc | apply pw_below_drewN | apply below_drew1) | exact HB.out)) hb); have n1_ := Aside0.mk (below_step (by repeat (first | (with_reducible first | exact HE.out | apply below_alloc | apply pw_below_drewN | apply below_drew1) | exact HE.out)) hb); (first | have n2_ := Aside0.mk (blk_below BKe.out hb) | have n2_ := Aside0.mk (blk_below (blk_drewN BKe.out _) hb) | have n2_ := Aside0.mk (blk_below (blk_drew BKe.out) hb) | have n2_ := Aside0.mk (blk_below (blk_alloc BKe.out _) hb) | have n2_ := Aside0.mk (blk_below (by first | exact BKe.out | ((with_reducible repeat (first | refine blk_drewN ?_ _ | refine blk_drew ?_ | refine blk_alloc ?_ _)); exact BKe.out)) hb)); (first | have n3_ := Aside0.mk (blk_below BKl.out hb) | have n3_ := Aside0.mk (blk_below (blk_drewN BKl.out _) hb) | have n3_ := Aside0.mk (blk_below (blk_drew BKl.out) hb) | have n3_ := Aside0.mk (blk_below (blk_alloc BKl.out _) hb) | have n3_ := Aside0.mk (blk_below (by first | exact BKl.out | ((with_reducible repeat (first | refine blk_drewN ?_ _ | refine blk_drew ?_ | refine blk_alloc ?_ _)); exact BKl.out)) hb)); (first | have n4_ := Aside0.mk (blk_below BKy.out hb) | have n4_ := Aside0.mk (blk_below (blk_drewN BKy.out _) hb) | have n4_ := Aside0.mk (blk_below (blk_drew BKy.out) hb) | have n4_ := Aside0.mk (blk_below (blk_alloc BKy.out _) hb) | have n4_ := Aside0.mk (blk_below (by first | exact BKy.out | ((with_reducible repeat (first | refine blk_drewN ?_ _ | refine blk_drew ?_ | refine blk_alloc ?_ _)); exact BKy.out)) hb)); clear HB HE BKe BKl BKy; have HB := n0_; have HE := n1_; have BKe := n2_; have BKl := n3_; have BKy := n4_; clear n0_ n1_ n2_ n3_ n4_ hb) | (with_reducible refine (Read.is _ _ g3 a3 h3 64 ca3 ch3 _ _ (R3.out.below (by repeat (first | (with_reducible first | exact HE.out | apply below_alloc | apply pw_below_drewN | apply below_drew1) | exact HE.out))) CN3.out j HJ.out (blkAt (t3.crashE 64 (List.replicate s4.btw.length 1)).asked j) (Eq.refl _)).mono ?_; rintro e' w' ⟨rfl, hb⟩; have n0_ := Aside0.mk (below_step (by repeat (first | (with_reducible first | exact HB.out | apply below_alloc | apply pw_below_drewN | apply below_drew1) | exact HB.out)) hb); have n1_ := Aside0.mk (below_step (by repeat (first | (with_reducible first | exact HE.out | apply below_alloc | apply pw_below_drewN | apply below_drew1) | exact HE.out)) hb); (first | have n2_ := Aside0.mk (blk_below BKe.out hb) | have n2_ := Aside0.mk (blk_below (blk_drewN BKe.out _) hb) | have n2_ := Aside0.mk (blk_below (blk_drew BKe.out) hb) | have n2_ := Aside0.mk (blk_below (blk_alloc BKe.out _) hb) | have n2_ := Aside0.mk (blk_below (by first | exact BKe.out | ((with_reducible repeat (first | refine blk_drewN ?_ _ | refine blk_drew ?_ | refine blk_alloc ?_ _)); exact BKe.out)) hb)); (first | have n3_ := Aside0.mk (blk_below BKl.out hb) | have n3_ := Aside0.mk (blk_below (blk_drewN BKl.out _) hb) | have n3_ := Aside0.mk (blk_below (blk_drew BKl.out) hb) | have n3_ := Aside0.mk (blk_below (blk_alloc BKl.out _) hb) | have n3_ := Aside0.mk (blk_below (by first | exact BKl.out | ((with_reducible repeat (first | refine blk_drewN ?_ _ | refine blk_drew ?_ | refine blk_alloc ?_ _)); exact BKl.out)) hb)); (first | have n4_ := Aside0.mk (blk_below BKy.out hb) | have n4_ := Aside0.mk (blk_below (blk_drewN BKy.out _) hb) | have n4_ := Aside0.mk (blk_below (blk_drew BKy.out) hb) | have n4_ := Aside0.mk (blk_below (blk_alloc BKy.out _) hb) | have n4_ := Aside0.mk (blk_below (by first | exact BKy.out | ((with_reducible repeat (first | refine blk_drewN ?_ _ | refine blk_drew ?_ | refine blk_alloc ?_ _)); exact BKy.out)) hb)); (first | have n5_ := Aside0.mk (blk_below BKb.out hb) | have n5_ := Aside0.mk (blk_below (blk_drewN BKb.out _) hb) | have n5_ := Aside0.mk (blk_below (blk_drew BKb.out) hb) | have n5_ := Aside0.mk (blk_below (blk_alloc BKb.out _) hb) | have n5_ := Aside0.mk (blk_below (by first | exact BKb.out | ((with_reducible repeat (first | refine blk_drewN ?_ _ | refine blk_drew ?_ | refine blk_alloc ?_ _)); exact BKb.out)) hb)); clear HB HE BKe BKl BKy BKb; have HB := n0_; have HE := n1_; have BKe := n2_; have BKl := n3_; have BKy := n4_; have BKb := n5_; clear n0_ n1_ n2_ n3_ n4_ n5_ hb))
            | ((with_reducible refine gate_dst (N := 17) rfl ?_); refine box_event ?hg (N := 17) ?hd (cs := bcells zero64) (t := 29) ?hr ?_; (case hd => rfl); (case hg => rfl); (case hr => exact alloc29_run rfl _); intro gy hg w1y hbox hb; have Gy := Aside0.mk (show w.heap.size ≤ gy from by rw [hg]; exact below_size (by repeat (first | (with_reducible first | exact HB.out | apply below_alloc | apply pw_below_drewN | apply below_drew1) | exact HB.out))); have NEey := Aside0.mk (show ge ≠ gy from by rw [hg]; exact Nat.ne_of_lt (blk_lt (by first | exact BKe.out | ((with_reducible repeat (first | refine blk_drewN ?_ _ | refine blk_drew ?_ | refine blk_alloc ?_ _)); exact BKe.out)))); have NEly := Aside0.mk (show gl ≠ gy from by rw [hg]; exact Nat.ne_of_lt (blk_lt (by first | exact BKl.out | ((with_reducible repeat (first | refine blk_drewN ?_ _ | refine blk_drew ?_ | refine blk_alloc ?_ _)); exact BKl.out)))); have Ey := Aside0.mk (show wc3.heap.size ≤ gy from by rw [hg]; exact below_size (by repeat (first | (with_reducible first | exact HE.out | apply below_alloc | apply pw_below_drewN | apply below_drew1) | exact HE.out))); have BKy := Aside0.mk hbox; clear hbox hg; have n0_ := Aside0.mk (below_step (by repeat (first | (with_reducible first | exact HB.out | apply below_alloc | apply pw_below_drewN | apply below_drew1) | exact HB.out)) hb); have n1_ := Aside0.mk (below_step (by repeat (first | (with_reducible first | exact HE.out | apply below_alloc | apply pw_below_drewN | apply below_drew1) | exact HE.out)) hb); (first | have n2_ := Aside0.mk (blk_below BKe.out hb) | have n2_ := Aside0.mk (blk_below (blk_drewN BKe.out _) hb) | have n2_ := Aside0.mk (blk_below (blk_drew BKe.out) hb) | have n2_ := Aside0.mk (blk_below (blk_alloc BKe.out _) hb) | have n2_ := Aside0.mk (blk_below (by first | exact BKe.out | ((with_reducible repeat (first | refine blk_drewN ?_ _ | refine blk_drew ?_ | refine blk_alloc ?_ _)); exact BKe.out)) hb)); (first | have n3_ := Aside0.mk (blk_below BKl.out hb) | have n3_ := Aside0.mk (blk_below (blk_drewN BKl.out _) hb) | have n3_ := Aside0.mk (blk_below (blk_drew BKl.out) hb) | have n3_ := Aside0.mk (blk_below (blk_alloc BKl.out _) hb) | have n3_ := Aside0.mk (blk_below (by first | exact BKl.out | ((with_reducible repeat (first | refine blk_drewN ?_ _ | refine blk_drew ?_ | refine blk_alloc ?_ _)); exact BKl.out)) hb)); clear HB HE BKe BKl; have HB := n0_; have HE := n1_; have BKe := n2_; have BKl := n3_; clear n0_ n1_ n2_ n3_ hb)
            | (refine wpList_store_row rfl 29 (.tmp 17) (.tmp 96) rfl gy (bcells (blkAt X2 j)) rfl (by rfl) 29 (bcells zero64) (by first | exact BKy.out | ((with_reducible repeat (first | refine blk_drewN ?_ _ | refine blk_drew ?_ | refine blk_alloc ?_ _)); exact BKy.out)) (seal_size _ L1.out) (by rw [bcells_size, bcells_size, L1.out]; rfl) (bcells_all _) ?_; have n5 := Aside0.mk (below_setRow (show Below wc3.heap.size wc3 _ from by repeat (first | (with_reducible first | exact HE.out | apply below_alloc | apply pw_below_drewN | apply below_drew1) | exact HE.out)) (show wc3.heap.size ≤ gy from Ey.out) (bcells (blkAt X2 j))); have n0 := Aside0.mk (below_setRow (show Below w.heap.size w _ from by repeat (first | (with_reducible first | exact HB.out | apply below_alloc | apply pw_below_drewN | apply below_drew1) | exact HB.out)) (show w.heap.size ≤ gy from Gy.out) (bcells (blkAt X2 j))); have n1 := Aside0.mk (setRow_heap _ _ _ (bcells (blkAt X2 j)) _ _ (by first | exact BKy.out | ((with_reducible repeat (first | refine blk_drewN ?_ _ | refine blk_drew ?_ | refine blk_alloc ?_ _)); exact BKy.out))); have ke := Aside0.mk ((setRow_other _ gy ge (bcells (blkAt X2 j)) NEey.out).trans (by first | exact BKe.out | ((with_reducible repeat (first | refine blk_drewN ?_ _ | refine blk_drew ?_ | refine blk_alloc ?_ _)); exact BKe.out))); have kl := Aside0.mk ((setRow_other _ gy gl (bcells (blkAt X2 j)) NEly.out).trans (by first | exact BKl.out | ((with_reducible repeat (first | refine blk_drewN ?_ _ | refine blk_drew ?_ | refine blk_alloc ?_ _)); exact BKl.out))); generalize World.setRow _ _ _ = w7 at n0 n1 n5 ke kl; clear HE HB BKy BKe BKl; have HB := n0; have HE := n5; have BKy := n1; have BKe := ke; clear ke; have BKl := kl; clear kl; clear n0 n1 n5)
            | ((with_reducible refine gate_dst (N := 19) rfl ?_); refine box_event ?hg (N := 19) ?hd (cs := bcells zero64) (t := 29) ?hr ?_; (case hd => rfl); (case hg => rfl); (case hr => exact alloc29_run rfl _); intro gb hg w1b hbox hb; have Gb := Aside0.mk (show w.heap.size ≤ gb from by rw [hg]; exact below_size (by repeat (first | (with_reducible first | exact HB.out | apply below_alloc | apply pw_below_drewN | apply below_drew1) | exact HB.out))); have NEeb := Aside0.mk (show ge ≠ gb from by rw [hg]; exact Nat.ne_of_lt (blk_lt (by first | exact BKe.out | ((with_reducible repeat (first | refine blk_drewN ?_ _ | refine blk_drew ?_ | refine blk_alloc ?_ _)); exact BKe.out)))); have NElb := Aside0.mk (show gl ≠ gb from by rw [hg]; exact Nat.ne_of_lt (blk_lt (by first | exact BKl.out | ((with_reducible repeat (first | refine blk_drewN ?_ _ | refine blk_drew ?_ | refine blk_alloc ?_ _)); exact BKl.out)))); have NEyb := Aside0.mk (show gy ≠ gb from by rw [hg]; exact Nat.ne_of_lt (blk_lt (by first | exact BKy.out | ((with_reducible repeat (first | refine blk_drewN ?_ _ | refine blk_drew ?_ | refine blk_alloc ?_ _)); exact BKy.out)))); have Eb := Aside0.mk (show wc3.heap.size ≤ gb from by rw [hg]; exact below_size (by repeat (first | (with_reducible first | exact HE.out | apply below_alloc | apply pw_below_drewN | apply below_drew1) | exact HE.out))); have BKb := Aside0.mk hbox; clear hbox hg; have n0_ := Aside0.mk (below_step (by repeat (first | (with_reducible first | exact HB.out | apply below_alloc | apply pw_below_drewN | apply below_drew1) | exact HB.out)) hb); have n1_ := Aside0.mk (below_step (by repeat (first | (with_reducible first | exact HE.out | apply below_alloc | apply pw_below_drewN | apply below_drew1) | exact HE.out)) hb); (first | have n2_ := Aside0.mk (blk_below BKe.out hb) | have n2_ := Aside0.mk (blk_below (blk_drewN BKe.out _) hb) | have n2_ := Aside0.mk (blk_below (blk_drew BKe.out) hb) | have n2_ := Aside0.mk (blk_below (blk_alloc BKe.out _) hb) | have n2_ := Aside0.mk (blk_below (by first | exact BKe.out | ((with_reducible repeat (first | refine blk_drewN ?_ _ | refine blk_drew ?_ | refine blk_alloc ?_ _)); exact BKe.out)) hb)); (first | have n3_ := Aside0.mk (blk_below BKl.out hb) | have n3_ := Aside0.mk (blk_below (blk_drewN BKl.out _) hb) | have n3_ := Aside0.mk (blk_below (blk_drew BKl.out) hb) | have n3_ := Aside0.mk (blk_below (blk_alloc BKl.out _) hb) | have n3_ := Aside0.mk (blk_below (by first | exact BKl.out | ((with_reducible repeat (first | refine blk_drewN ?_ _ | refine blk_drew ?_ | refine blk_alloc ?_ _)); exact BKl.out)) hb)); (first | have n4_ := Aside0.mk (blk_below BKy.out hb) | have n4_ := Aside0.mk (blk_below (blk_drewN BKy.out _) hb) | have n4_ := Aside0.mk (blk_below (blk_drew BKy.out) hb) | have n4_ := Aside0.mk (blk_below (blk_alloc BKy.out _) hb) | have n4_ := Aside0.mk (blk_below (by first | exact BKy.out | ((with_reducible repeat (first | refine blk_drewN ?_ _ | refine blk_drew ?_ | refine blk_alloc ?_ _)); exact BKy.out)) hb)); clear HB HE BKe BKl BKy; have HB := n0_; have HE := n1_; have BKe := n2_; have BKl := n3_; have BKy := n4_; clear n0_ n1_ n2_ n3_ n4_ hb)
            | (refine wpList_store_row rfl 29 (.tmp 19) (.tmp 102) rfl gb (bcells (blkAt X1 j)) rfl (by rfl) 29 (bcells zero64) (by first | exact BKb.out | ((with_reducible repeat (first | refine blk_drewN ?_ _ | refine blk_drew ?_ | refine blk_alloc ?_ _)); exact BKb.out)) (seal_size _ L2.out) (by rw [bcells_size, bcells_size, L2.out]; rfl) (bcells_all _) ?_; have n5 := Aside0.mk (below_setRow (show Below wc3.heap.size wc3 _ from by repeat (first | (with_reducible first | exact HE.out | apply below_alloc | apply pw_below_drewN | apply below_drew1) | exact HE.out)) (show wc3.heap.size ≤ gb from Eb.out) (bcells (blkAt X1 j))); have n0 := Aside0.mk (below_setRow (show Below w.heap.size w _ from by repeat (first | (with_reducible first | exact HB.out | apply below_alloc | apply pw_below_drewN | apply below_drew1) | exact HB.out)) (show w.heap.size ≤ gb from Gb.out) (bcells (blkAt X1 j))); have n1 := Aside0.mk (setRow_heap _ _ _ (bcells (blkAt X1 j)) _ _ (by first | exact BKb.out | ((with_reducible repeat (first | refine blk_drewN ?_ _ | refine blk_drew ?_ | refine blk_alloc ?_ _)); exact BKb.out))); have ke := Aside0.mk ((setRow_other _ gb ge (bcells (blkAt X1 j)) NEeb.out).trans (by first | exact BKe.out | ((with_reducible repeat (first | refine blk_drewN ?_ _ | refine blk_drew ?_ | refine blk_alloc ?_ _)); exact BKe.out))); have kl := Aside0.mk ((setRow_other _ gb gl (bcells (blkAt X1 j)) NElb.out).trans (by first | exact BKl.out | ((with_reducible repeat (first | refine blk_drewN ?_ _ | refine blk_drew ?_ | refine blk_alloc ?_ _)); exact BKl.out))); have ky := Aside0.mk ((setRow_other _ gb gy (bcells (blkAt X1 j)) NEyb.out).trans (by first | exact BKy.out | ((with_reducible repeat (first | refine blk_drewN ?_ _ | refine blk_drew ?_ | refine blk_alloc ?_ _)); exact BKy.out))); generalize World.setRow _ _ _ = w7 at n0 n1 n5 ke kl ky; clear HE HB BKb BKe BKl BKy; have HB := n0; have HE := n5; have BKb := n1; have BKe := ke; clear ke; have BKl := kl; clear kl; have BKy := ky; clear ky; clear n0 n1 n5)
            | ((with_reducible refine gate_dst (N := 21) rfl ?_); refine box_event ?hg (N := 21) ?hd (cs := bcells zero64) (t := 29) ?hr ?_; (case hd => rfl); (case hg => rfl); (case hr => exact alloc29_run rfl _); intro gc hg w1c hbox hb; have Gc := Aside0.mk (show w.heap.size ≤ gc from by rw [hg]; exact below_size (by repeat (first | (with_reducible first | exact HB.out | apply below_alloc | apply pw_below_drewN | apply below_drew1) | exact HB.out))); have NEec := Aside0.mk (show ge ≠ gc from by rw [hg]; exact Nat.ne_of_lt (blk_lt (by first | exact BKe.out | ((with_reducible repeat (first | refine blk_drewN ?_ _ | refine blk_drew ?_ | refine blk_alloc ?_ _)); exact BKe.out)))); have NElc := Aside0.mk (show gl ≠ gc from by rw [hg]; exact Nat.ne_of_lt (blk_lt (by first | exact BKl.out | ((with_reducible repeat (first | refine blk_drewN ?_ _ | refine blk_drew ?_ | refine blk_alloc ?_ _)); exact BKl.out)))); have NEyc := Aside0.mk (show gy ≠ gc from by rw [hg]; exact Nat.ne_of_lt (blk_lt (by first | exact BKy.out | ((with_reducible repeat (first | refine blk_drewN ?_ _ | refine blk_drew ?_ | refine blk_alloc ?_ _)); exact BKy.out)))); have NEbc := Aside0.mk (show gb ≠ gc from by rw [hg]; exact Nat.ne_of_lt (blk_lt (by first | exact BKb.out | ((with_reducible repeat (first | refine blk_drewN ?_ _ | refine blk_drew ?_ | refine blk_alloc ?_ _)); exact BKb.out)))); have Ec := Aside0.mk (show wc3.heap.size ≤ gc from by rw [hg]; exact below_size (by repeat (first | (with_reducible first | exact HE.out | apply below_alloc | apply pw_below_drewN | apply below_drew1) | exact HE.out))); have BKc := Aside0.mk hbox; clear hbox hg; have n0_ := Aside0.mk (below_step (by repeat (first | (with_reducible first | exact HB.out | apply below_alloc | apply pw_below_drewN | apply below_drew1) | exact HB.out)) hb); have n1_ := Aside0.mk (below_step (by repeat (first | (with_reducible first | exact HE.out | apply below_alloc | apply pw_below_drewN | apply below_drew1) | exact HE.out)) hb); (first | have n2_ := Aside0.mk (blk_below BKe.out hb) | have n2_ := Aside0.mk (blk_below (blk_drewN BKe.out _) hb) | have n2_ := Aside0.mk (blk_below (blk_drew BKe.out) hb) | have n2_ := Aside0.mk (blk_below (blk_alloc BKe.out _) hb) | have n2_ := Aside0.mk (blk_below (by first | exact BKe.out | ((with_reducible repeat (first | refine blk_drewN ?_ _ | refine blk_drew ?_ | refine blk_alloc ?_ _)); exact BKe.out)) hb)); (first | have n3_ := Aside0.mk (blk_below BKl.out hb) | have n3_ := Aside0.mk (blk_below (blk_drewN BKl.out _) hb) | have n3_ := Aside0.mk (blk_below (blk_drew BKl.out) hb) | have n3_ := Aside0.mk (blk_below (blk_alloc BKl.out _) hb) | have n3_ := Aside0.mk (blk_below (by first | exact BKl.out | ((with_reducible repeat (first | refine blk_drewN ?_ _ | refine blk_drew ?_ | refine blk_alloc ?_ _)); exact BKl.out)) hb)); (first | have n4_ := Aside0.mk (blk_below BKy.out hb) | have n4_ := Aside0.mk (blk_below (blk_drewN BKy.out _) hb) | have n4_ := Aside0.mk (blk_below (blk_drew BKy.out) hb) | have n4_ := Aside0.mk (blk_below (blk_alloc BKy.out _) hb) | have n4_ := Aside0.mk (blk_below (by first | exact BKy.out | ((with_reducible repeat (first | refine blk_drewN ?_ _ | refine blk_drew ?_ | refine blk_alloc ?_ _)); exact BKy.out)) hb)); (first | have n5_ := Aside0.mk (blk_below BKb.out hb) | have n5_ := Aside0.mk (blk_below (blk_drewN BKb.out _) hb) | have n5_ := Aside0.mk (blk_below (blk_drew BKb.out) hb) | have n5_ := Aside0.mk (blk_below (blk_alloc BKb.out _) hb) | have n5_ := Aside0.mk (blk_below (by first | exact BKb.out | ((with_reducible repeat (first | refine blk_drewN ?_ _ | refine blk_drew ?_ | refine blk_alloc ?_ _)); exact BKb.out)) hb)); clear HB HE BKe BKl BKy BKb; have HB := n0_; have HE := n1_; have BKe := n2_; have BKl := n3_; have BKy := n4_; have BKb := n5_; clear n0_ n1_ n2_ n3_ n4_ n5_ hb)
            | (refine wpList_store_row rfl 29 (.tmp 21) (.tmp 108) rfl gc (bcells (blkAt (t3.crashE 64 (List.replicate s4.btw.length 1)).asked j)) rfl (by rfl) 29 (bcells zero64) (by first | exact BKc.out | ((with_reducible repeat (first | refine blk_drewN ?_ _ | refine blk_drew ?_ | refine blk_alloc ?_ _)); exact BKc.out)) (seal_size _ L3.out) (by rw [bcells_size, bcells_size, L3.out]; rfl) (bcells_all _) ?_; have n5 := Aside0.mk (below_setRow (show Below wc3.heap.size wc3 _ from by repeat (first | (with_reducible first | exact HE.out | apply below_alloc | apply pw_below_drewN | apply below_drew1) | exact HE.out)) (show wc3.heap.size ≤ gc from Ec.out) (bcells (blkAt (t3.crashE 64 (List.replicate s4.btw.length 1)).asked j))); have n0 := Aside0.mk (below_setRow (show Below w.heap.size w _ from by repeat (first | (with_reducible first | exact HB.out | apply below_alloc | apply pw_below_drewN | apply below_drew1) | exact HB.out)) (show w.heap.size ≤ gc from Gc.out) (bcells (blkAt (t3.crashE 64 (List.replicate s4.btw.length 1)).asked j))); have n1 := Aside0.mk (setRow_heap _ _ _ (bcells (blkAt (t3.crashE 64 (List.replicate s4.btw.length 1)).asked j)) _ _ (by first | exact BKc.out | ((with_reducible repeat (first | refine blk_drewN ?_ _ | refine blk_drew ?_ | refine blk_alloc ?_ _)); exact BKc.out))); have ke := Aside0.mk ((setRow_other _ gc ge (bcells (blkAt (t3.crashE 64 (List.replicate s4.btw.length 1)).asked j)) NEec.out).trans (by first | exact BKe.out | ((with_reducible repeat (first | refine blk_drewN ?_ _ | refine blk_drew ?_ | refine blk_alloc ?_ _)); exact BKe.out))); have kl := Aside0.mk ((setRow_other _ gc gl (bcells (blkAt (t3.crashE 64 (List.replicate s4.btw.length 1)).asked j)) NElc.out).trans (by first | exact BKl.out | ((with_reducible repeat (first | refine blk_drewN ?_ _ | refine blk_drew ?_ | refine blk_alloc ?_ _)); exact BKl.out))); have ky := Aside0.mk ((setRow_other _ gc gy (bcells (blkAt (t3.crashE 64 (List.replicate s4.btw.length 1)).asked j)) NEyc.out).trans (by first | exact BKy.out | ((with_reducible repeat (first | refine blk_drewN ?_ _ | refine blk_drew ?_ | refine blk_alloc ?_ _)); exact BKy.out))); have kb := Aside0.mk ((setRow_other _ gc gb (bcells (blkAt (t3.crashE 64 (List.replicate s4.btw.length 1)).asked j)) NEbc.out).trans (by first | exact BKb.out | ((with_reducible repeat (first | refine blk_drewN ?_ _ | refine blk_drew ?_ | refine blk_alloc ?_ _)); exact BKb.out))); generalize World.setRow _ _ _ = w7 at n0 n1 n5 ke kl ky kb; clear HE HB BKc BKe BKl BKy BKb; have HB := n0; have HE := n5; have BKc := n1; have BKe := ke; clear ke; have BKl := kl; clear kl; have BKy := ky; clear ky; have BKb := kb; clear kb; clear n0 n1 n5))
          have hEq1 : ∀ (d : Nat) (W : World), (Op.equalIn (d + 2) 29 (.agg (bcells (blkAt X2 j))) (.agg (bcells (blkAt X2 j)))).run Try.prog W = .ok true W := fun d W => (eqArr d _ _ L1.out L1.out W).trans (by rw [decide_eq_true rfl])
          have hEq2 : ∀ (W : World), (Op.equal 29 (.agg (bcells (blkAt X2 j))) (.agg (bcells (blkAt X2 j)))).run Try.prog W = .ok true W := fun W => hEq1 9998 W
          have hEq3 : ∀ (d : Nat) (W : World), (Op.equalIn (d + 2) 29 (.agg (bcells (blkAt X1 j))) (.agg (bcells (blkAt X1 j)))).run Try.prog W = .ok true W := fun d W => (eqArr d _ _ L2.out L2.out W).trans (by rw [decide_eq_true rfl])
          have hEq4 : ∀ (W : World), (Op.equal 29 (.agg (bcells (blkAt X1 j))) (.agg (bcells (blkAt X1 j)))).run Try.prog W = .ok true W := fun W => hEq3 9998 W
          go_wp2
          refine start_ (n := 12) (S := fun w' => w'.heap[gy]? = some (.cells (bcells (blkAt X2 j)) 29 (0, 0)) ∧ w'.heap[gl]? = some (.cells (bcells X2) 38 (0, 0)) ∧ w'.heap[gb]? = some (.cells (bcells (blkAt X1 j)) 29 (0, 0)) ∧ w'.heap[ge]? = some (.cells (bcells X1) 38 (0, 0))) (ds := []) #[false, false, false, false, false, false, false, false, false, false, false, false] (by kernel_rfl) rfl rfl ⟨BKy.out, BKl.out, BKb.out, BKe.out⟩ (fun hHeld => ?_)
          refine pure_ (i := 1) (N := some 111) (v := ?_) (a' := ?_) #[false, true, false, false, false, false, false, false, false, false, false, false] rfl rfl (by kernel_rfl) (fun _ _ _ h => h) (Or.inl ⟨by rfl, ?_⟩) ?_ ?_
          rotate_left
          · intro w'
            go_simp
            with_reducible rfl
          rotate_left
          · simp only [Act.put, List.setIfInBounds_toArray, List.set_cons_zero, List.set_cons_succ, i64_w, i32_w]
            rfl
          refine pure_ (i := 2) (N := some 112) (v := ?_) (a' := ?_) #[false, true, true, false, false, false, false, false, false, false, false, false] rfl rfl (by kernel_rfl) (fun _ _ _ h => h) (Or.inl ⟨by rfl, ?_⟩) ?_ ?_
          rotate_left
          · intro w'
            go_simp
            with_reducible rfl
          rotate_left
          · simp only [Act.put, List.setIfInBounds_toArray, List.set_cons_zero, List.set_cons_succ, i64_w, i32_w]
            rfl
          refine take_ (i := 0) (N := some 110) (v := ?_) (a' := ?_) #[true, true, true, false, false, false, false, false, false, false, false, false] rfl rfl (by kernel_rfl) (fun _ _ _ h => h) (Or.inl ⟨by rfl, ?_⟩) hHeld ?_ ?_
          rotate_left
          · rintro w' ⟨s0, s1, s2, s3⟩
            refine bl.load_run 17 gy (bcells (blkAt X2 j)) ?_ ?_ w' s0 (seal_size (blkAt X2 j) L1.out)
            · rfl
            · rfl
          rotate_left
          · simp only [Act.put, List.setIfInBounds_toArray, List.set_cons_zero, List.set_cons_succ, i64_w, i32_w]
            rfl
          refine take_ (i := 3) (N := some 113) (v := ?_) (a' := ?_) #[true, true, true, true, false, false, false, false, false, false, false, false] rfl rfl (by kernel_rfl) (fun _ _ _ h => h) (Or.inl ⟨by rfl, ?_⟩) hHeld ?_ ?_
          rotate_left
          · rintro w' ⟨s0, s1, s2, s3⟩
            refine mid.load_run 112 gl (j * 64) (blkAt X2 j) L1.out ?_ ?_ w' (GA.range_blk (n := 8) s1 j LX2.out HJ8.out)
            · rfl
            · rfl
          rotate_left
          · simp only [Act.put, List.setIfInBounds_toArray, List.set_cons_zero, List.set_cons_succ, i64_w, i32_w]
            rfl
          refine pure_ (i := 4) (N := some 114) (v := ?_) (a' := ?_) #[true, true, true, true, true, false, false, false, false, false, false, false] rfl rfl (by kernel_rfl) (fun _ _ _ h => h) (Or.inl ⟨by rfl, ?_⟩) ?_ ?_
          rotate_left
          · intro w'
            go_simp
            with_reducible rfl
          rotate_left
          · simp only [Act.put, List.setIfInBounds_toArray, List.set_cons_zero, List.set_cons_succ, i64_w, i32_w]
            rfl
          refine pure_ (i := 5) (N := some 115) (v := ?_) (a' := ?_) #[true, true, true, true, true, true, false, false, false, false, false, false] rfl rfl (by kernel_rfl) (fun _ _ _ h => h) (Or.inl ⟨by rfl, ?_⟩) ?_ ?_
          rotate_left
          · intro w'
            go_simp
            with_reducible rfl
          rotate_left
          · simp only [Act.put, List.setIfInBounds_toArray, List.set_cons_zero, List.set_cons_succ, i64_w, i32_w]
            rfl
          refine pure_ (i := 7) (N := some 117) (v := ?_) (a' := ?_) #[true, true, true, true, true, true, false, true, false, false, false, false] rfl rfl (by kernel_rfl) (fun _ _ _ h => h) (Or.inl ⟨by rfl, ?_⟩) ?_ ?_
          rotate_left
          · intro w'
            go_simp
            with_reducible rfl
          rotate_left
          · simp only [Act.put, List.setIfInBounds_toArray, List.set_cons_zero, List.set_cons_succ, i64_w, i32_w]
            rfl
          refine pure_ (i := 8) (N := some 118) (v := ?_) (a' := ?_) #[true, true, true, true, true, true, false, true, true, false, false, false] rfl rfl (by kernel_rfl) (fun _ _ _ h => h) (Or.inl ⟨by rfl, ?_⟩) ?_ ?_
          rotate_left
          · intro w'
            go_simp
            with_reducible rfl
          rotate_left
          · simp only [Act.put, List.setIfInBounds_toArray, List.set_cons_zero, List.set_cons_succ, i64_w, i32_w]
            rfl
          refine take_ (i := 6) (N := some 116) (v := ?_) (a' := ?_) #[true, true, true, true, true, true, true, true, true, false, false, false] rfl rfl (by kernel_rfl) (fun _ _ _ h => h) (Or.inl ⟨by rfl, ?_⟩) hHeld ?_ ?_
          rotate_left
          · rintro w' ⟨s0, s1, s2, s3⟩
            refine bl.load_run 19 gb (bcells (blkAt X1 j)) ?_ ?_ w' s2 (seal_size (blkAt X1 j) L2.out)
            · rfl
            · rfl
          rotate_left
          · simp only [Act.put, List.setIfInBounds_toArray, List.set_cons_zero, List.set_cons_succ, i64_w, i32_w]
            rfl
          refine take_ (i := 9) (N := some 119) (v := ?_) (a' := ?_) #[true, true, true, true, true, true, true, true, true, true, false, false] rfl rfl (by kernel_rfl) (fun _ _ _ h => h) (Or.inl ⟨by rfl, ?_⟩) hHeld ?_ ?_
          rotate_left
          · rintro w' ⟨s0, s1, s2, s3⟩
            refine mid.load_run 118 ge (j * 64) (blkAt X1 j) L2.out ?_ ?_ w' (GA.range_blk (n := 8) s3 j LX1.out HJ8.out)
            · rfl
            · rfl
          rotate_left
          · simp only [Act.put, List.setIfInBounds_toArray, List.set_cons_zero, List.set_cons_succ, i64_w, i32_w]
            rfl
          refine pure_ (i := 10) (N := some 120) (v := ?_) (a' := ?_) #[true, true, true, true, true, true, true, true, true, true, true, false] rfl rfl (by kernel_rfl) (fun _ _ _ h => h) (Or.inl ⟨by rfl, ?_⟩) ?_ ?_
          rotate_left
          · intro w'
            go_simp
            with_reducible rfl
          rotate_left
          · simp only [Act.put, List.setIfInBounds_toArray, List.set_cons_zero, List.set_cons_succ, i64_w, i32_w]
            rfl
          refine pure_ (i := 11) (N := some 121) (v := ?_) (a' := ?_) #[true, true, true, true, true, true, true, true, true, true, true, true] rfl rfl (by kernel_rfl) (fun _ _ _ h => h) (Or.inl ⟨by rfl, ?_⟩) ?_ ?_
          rotate_left
          · intro w'
            go_simp
            with_reducible rfl
          rotate_left
          · simp only [Act.put, List.setIfInBounds_toArray, List.set_cons_zero, List.set_cons_succ, i64_w, i32_w]
            rfl
          refine done_ (by kernel_rfl) ?_

          go_wp2
          go_loopw [23] (fun v23 w' => ∃ i : Nat, i ≤ 64 ∧ v23 = .int .i64 i ∧ Aside0 (Below w.heap.size w w') ∧ Aside0 (Below wc3.heap.size wc3 w') ∧ Aside0 (w'.heap[ge]? = some (.cells (bcells X1) 38 (0, 0))) ∧ Aside0 (w'.heap[gl]? = some (.cells (bcells X2) 38 (0, 0))) ∧ Aside0 (w'.heap[gc]? = some (.cells (bcells (blkAt (t3.crashE 64 (List.replicate s4.btw.length 1)).asked j)) 29 (0, 0)))) (fun v23 _ => 64 - (intOf v23).toNat)
          case atStart => exact ⟨0, by decide, rfl, ⟨by repeat (first | (with_reducible first | exact HB.out | apply below_alloc | apply pw_below_drewN | apply below_drew1) | exact HB.out)⟩, ⟨by repeat (first | (with_reducible first | exact HE.out | apply below_alloc | apply pw_below_drewN | apply below_drew1) | exact HE.out)⟩, ⟨by first | exact BKe.out | ((with_reducible repeat (first | refine blk_drewN ?_ _ | refine blk_drew ?_ | refine blk_alloc ?_ _)); exact BKe.out)⟩, ⟨by first | exact BKl.out | ((with_reducible repeat (first | refine blk_drewN ?_ _ | refine blk_drew ?_ | refine blk_alloc ?_ _)); exact BKl.out)⟩, ⟨by first | exact BKc.out | ((with_reducible repeat (first | refine blk_drewN ?_ _ | refine blk_drew ?_ | refine blk_alloc ?_ _)); exact BKc.out)⟩⟩
          case round =>
            clear HB HE BKe BKl BKc BKy BKb
            obtain ⟨i, hi, rfl, HB, HE, BKe, BKl, BKc⟩ := hrel
            by_cases hil : i < 64
            · have i2 : (i : Int) < 64 := by omega
              have i0 : (0 : Int) ≤ (i : Int) := Int.natCast_nonneg i
              have k5 : wrap64 ((i : Int) + 1) = (i : Int) + 1 := by unfold wrap64; omega
              have HJI : j * 64 + i < 512 := by omega
              have c9 := (blk_cell BKc.out i).trans (bcells_get _ i (by rw [L3.out]; exact hil))
              by_cases h32 : i < 32
              · have i3 : (i : Int) < 32 := by omega
                have i4 : decide ((32 : Int) ≤ (i : Int)) = false := decide_eq_false (by omega)
                have c0 : wr.cell? ⟨gc, i, none⟩ = some (.int .u8 (rd X2 ((j * 64 + i : Nat) : Int))) := c9.trans (by rw [rd_take _ _ TKd.out.1 i h32, rd_blk X2 j i hil])
                have c1 : wr.cell? ⟨gl, j * 64 + i, none⟩ = some (.int .u8 (rd X2 ((j * 64 + i : Nat) : Int))) := (blk_cell BKl.out (j * 64 + i)).trans (bcells_get _ _ (by rw [LX2.out]; exact HJI))
                clear c9
                go_wp2
                refine start_ (n := 28) (S := fun w' => w'.cell? ⟨gc, i, none⟩ = some (.int .u8 (rd X2 ((j * 64 + i : Nat) : Int))) ∧ w'.cell? ⟨gl, j * 64 + i, none⟩ = some (.int .u8 (rd X2 ((j * 64 + i : Nat) : Int)))) (ds := []) #[false, false, false, false, false, false, false, false, false, false, false, false, false, false, false, false, false, false, false, false, false, false, false, false, false, false, false, false] (by kernel_rfl) rfl rfl ⟨c0, c1⟩ (fun hHeld => ?_)
                refine pure_ (i := 0) (N := some 126) (v := ?_) (a' := ?_) #[true, false, false, false, false, false, false, false, false, false, false, false, false, false, false, false, false, false, false, false, false, false, false, false, false, false, false, false] rfl rfl (by kernel_rfl) (fun _ _ _ h => h) (Or.inl ⟨by rfl, ?_⟩) ?_ ?_
                rotate_left
                · intro w'
                  go_simp
                  with_reducible rfl
                rotate_left
                · simp only [Act.put, List.setIfInBounds_toArray, List.set_cons_zero, List.set_cons_succ, i64_w, i32_w]
                  rfl
                refine pure_ (i := 1) (N := some 127) (v := ?_) (a' := ?_) #[true, true, false, false, false, false, false, false, false, false, false, false, false, false, false, false, false, false, false, false, false, false, false, false, false, false, false, false] rfl rfl (by kernel_rfl) (fun _ _ _ h => h) (Or.inl ⟨by rfl, ?_⟩) ?_ ?_
                rotate_left
                · intro w'
                  go_simp
                  with_reducible rfl
                rotate_left
                · simp only [Act.put, List.setIfInBounds_toArray, List.set_cons_zero, List.set_cons_succ, i64_w, i32_w]
                  rfl
                refine pure_ (i := 2) (N := some 128) (v := ?_) (a' := ?_) #[true, true, true, false, false, false, false, false, false, false, false, false, false, false, false, false, false, false, false, false, false, false, false, false, false, false, false, false] rfl rfl (by kernel_rfl) (fun _ _ _ h => h) (Or.inl ⟨by rfl, ?_⟩) ?_ ?_
                rotate_left
                · intro w'
                  go_simp
                  with_reducible rfl
                rotate_left
                · simp only [Act.put, List.setIfInBounds_toArray, List.set_cons_zero, List.set_cons_succ, i64_w, i32_w]
                  rfl
                refine pure_ (i := 3) (N := some 129) (v := ?_) (a' := ?_) #[true, true, true, true, false, false, false, false, false, false, false, false, false, false, false, false, false, false, false, false, false, false, false, false, false, false, false, false] rfl rfl (by kernel_rfl) (fun _ _ _ h => h) (Or.inl ⟨by rfl, ?_⟩) ?_ ?_
                rotate_left
                · intro w'
                  go_simp
                  with_reducible rfl
                rotate_left
                · simp only [Act.put, List.setIfInBounds_toArray, List.set_cons_zero, List.set_cons_succ, i64_w, i32_w]
                  rfl
                refine pure_ (i := 4) (N := some 130) (v := ?_) (a' := ?_) #[true, true, true, true, true, false, false, false, false, false, false, false, false, false, false, false, false, false, false, false, false, false, false, false, false, false, false, false] rfl rfl (by kernel_rfl) (fun _ _ _ h => h) (Or.inl ⟨by rfl, ?_⟩) ?_ ?_
                rotate_left
                · intro w'
                  go_simp
                  with_reducible rfl
                rotate_left
                · simp only [Act.put, List.setIfInBounds_toArray, List.set_cons_zero, List.set_cons_succ, i64_w, i32_w]
                  rfl
                refine pure_ (i := 6) (N := some 132) (v := ?_) (a' := ?_) #[true, true, true, true, true, false, true, false, false, false, false, false, false, false, false, false, false, false, false, false, false, false, false, false, false, false, false, false] rfl rfl (by kernel_rfl) (fun _ _ _ h => h) (Or.inl ⟨by rfl, ?_⟩) ?_ ?_
                rotate_left
                · intro w'
                  go_simp
                  with_reducible rfl
                rotate_left
                · simp only [Act.put, List.setIfInBounds_toArray, List.set_cons_zero, List.set_cons_succ, i64_w, i32_w]
                  rfl
                refine pure_ (i := 7) (N := some 133) (v := ?_) (a' := ?_) #[true, true, true, true, true, false, true, true, false, false, false, false, false, false, false, false, false, false, false, false, false, false, false, false, false, false, false, false] rfl rfl (by kernel_rfl) (fun _ _ _ h => h) (Or.inl ⟨by rfl, ?_⟩) ?_ ?_
                rotate_left
                · intro w'
                  go_simp
                  with_reducible rfl
                rotate_left
                · simp only [Act.put, List.setIfInBounds_toArray, List.set_cons_zero, List.set_cons_succ, i64_w, i32_w]
                  rfl
                refine pure_ (i := 8) (N := some 134) (v := ?_) (a' := ?_) #[true, true, true, true, true, false, true, true, true, false, false, false, false, false, false, false, false, false, false, false, false, false, false, false, false, false, false, false] rfl rfl (by kernel_rfl) (fun _ _ _ h => h) (Or.inl ⟨by rfl, ?_⟩) ?_ ?_
                rotate_left
                · intro w'
                  go_simp
                  with_reducible rfl
                rotate_left
                · simp only [Act.put, List.setIfInBounds_toArray, List.set_cons_zero, List.set_cons_succ, i64_w, i32_w]
                  rfl
                refine pure_ (i := 9) (N := some 135) (v := ?_) (a' := ?_) #[true, true, true, true, true, false, true, true, true, true, false, false, false, false, false, false, false, false, false, false, false, false, false, false, false, false, false, false] rfl rfl (by kernel_rfl) (fun _ _ _ h => h) (Or.inl ⟨by rfl, ?_⟩) ?_ ?_
                rotate_left
                · intro w'
                  go_simp
                  with_reducible rfl
                rotate_left
                · simp only [Act.put, List.setIfInBounds_toArray, List.set_cons_zero, List.set_cons_succ, i64_w, i32_w]
                  rfl
                refine take_ (i := 5) (N := some 131) (v := ?_) (a' := ?_) #[true, true, true, true, true, true, true, true, true, true, false, false, false, false, false, false, false, false, false, false, false, false, false, false, false, false, false, false] rfl rfl (by kernel_rfl) (fun _ _ _ h => h) (Or.inl ⟨by rfl, ?_⟩) hHeld ?_ ?_
                rotate_left
                · rintro w' ⟨s0, s1⟩
                  go_simp
                  with_reducible rfl
                rotate_left
                · simp only [Act.put, List.setIfInBounds_toArray, List.set_cons_zero, List.set_cons_succ, i64_w, i32_w]
                  rfl
                refine take_ (i := 10) (N := some 136) (v := ?_) (a' := ?_) #[true, true, true, true, true, true, true, true, true, true, true, false, false, false, false, false, false, false, false, false, false, false, false, false, false, false, false, false] rfl rfl (by kernel_rfl) (fun _ _ _ h => h) (Or.inl ⟨by rfl, ?_⟩) hHeld ?_ ?_
                rotate_left
                · rintro w' ⟨s0, s1⟩
                  go_simp
                  with_reducible rfl
                rotate_left
                · simp only [Act.put, List.setIfInBounds_toArray, List.set_cons_zero, List.set_cons_succ, i64_w, i32_w]
                  rfl
                refine pure_ (i := 11) (N := some 137) (v := ?_) (a' := ?_) #[true, true, true, true, true, true, true, true, true, true, true, true, false, false, false, false, false, false, false, false, false, false, false, false, false, false, false, false] rfl rfl (by kernel_rfl) (fun _ _ _ h => h) (Or.inl ⟨by rfl, ?_⟩) ?_ ?_
                rotate_left
                · intro w'
                  go_simp
                  with_reducible rfl
                rotate_left
                · simp only [Act.put, List.setIfInBounds_toArray, List.set_cons_zero, List.set_cons_succ, i64_w, i32_w]
                  rfl
                refine pure_ (i := 12) (N := some 138) (v := ?_) (a' := ?_) #[true, true, true, true, true, true, true, true, true, true, true, true, true, false, false, false, false, false, false, false, false, false, false, false, false, false, false, false] rfl rfl (by kernel_rfl) (fun _ _ _ h => h) (Or.inl ⟨by rfl, ?_⟩) ?_ ?_
                rotate_left
                · intro w'
                  go_simp
                  with_reducible rfl
                rotate_left
                · simp only [Act.put, List.setIfInBounds_toArray, List.set_cons_zero, List.set_cons_succ, i64_w, i32_w]
                  rfl
                refine pure_ (i := 13) (N := some 139) (v := ?_) (a' := ?_) #[true, true, true, true, true, true, true, true, true, true, true, true, true, true, false, false, false, false, false, false, false, false, false, false, false, false, false, false] rfl rfl (by kernel_rfl) (fun _ _ _ h => h) (Or.inl ⟨by rfl, ?_⟩) ?_ ?_
                rotate_left
                · intro w'
                  go_simp
                  with_reducible rfl
                rotate_left
                · simp only [Act.put, List.setIfInBounds_toArray, List.set_cons_zero, List.set_cons_succ, i64_w, i32_w]
                  rfl
                refine pure_ (i := 14) (N := some 140) (v := ?_) (a' := ?_) #[true, true, true, true, true, true, true, true, true, true, true, true, true, true, true, false, false, false, false, false, false, false, false, false, false, false, false, false] rfl rfl (by kernel_rfl) (fun _ _ _ h => h) (Or.inl ⟨by rfl, ?_⟩) ?_ ?_
                rotate_left
                · intro w'
                  go_simp
                  with_reducible rfl
                rotate_left
                · simp only [Act.put, List.setIfInBounds_toArray, List.set_cons_zero, List.set_cons_succ, i64_w, i32_w]
                  rfl
                refine pure_ (i := 15) (N := some 141) (v := ?_) (a' := ?_) #[true, true, true, true, true, true, true, true, true, true, true, true, true, true, true, true, false, false, false, false, false, false, false, false, false, false, false, false] rfl rfl (by kernel_rfl) (fun _ _ _ h => h) (Or.inl ⟨by rfl, ?_⟩) ?_ ?_
                rotate_left
                · intro w'
                  go_simp
                  with_reducible rfl
                rotate_left
                · simp only [Act.put, List.setIfInBounds_toArray, List.set_cons_zero, List.set_cons_succ, i64_w, i32_w]
                  rfl
                refine pure_ (i := 16) (N := some 142) (v := ?_) (a' := ?_) #[true, true, true, true, true, true, true, true, true, true, true, true, true, true, true, true, true, false, false, false, false, false, false, false, false, false, false, false] rfl rfl (by kernel_rfl) (fun _ _ _ h => h) (Or.inl ⟨by rfl, ?_⟩) ?_ ?_
                rotate_left
                · intro w'
                  go_simp
                  with_reducible rfl
                rotate_left
                · simp only [Act.put, List.setIfInBounds_toArray, List.set_cons_zero, List.set_cons_succ, i64_w, i32_w]
                  rfl
                refine pure_ (i := 17) (N := some 143) (v := undef) (a' := ?_) #[true, true, true, true, true, true, true, true, true, true, true, true, true, true, true, true, true, true, false, false, false, false, false, false, false, false, false, false] rfl rfl (by kernel_rfl) (fun _ _ _ h => h) (Or.inr ⟨by rfl, rfl⟩) ?_ ?_
                rotate_left
                · simp only [Act.put, List.setIfInBounds_toArray, List.set_cons_zero, List.set_cons_succ, i64_w, i32_w]
                  rfl
                refine pure_ (i := 18) (N := some 144) (v := undef) (a' := ?_) #[true, true, true, true, true, true, true, true, true, true, true, true, true, true, true, true, true, true, true, false, false, false, false, false, false, false, false, false] rfl rfl (by kernel_rfl) (fun _ _ _ h => h) (Or.inr ⟨by rfl, rfl⟩) ?_ ?_
                rotate_left
                · simp only [Act.put, List.setIfInBounds_toArray, List.set_cons_zero, List.set_cons_succ, i64_w, i32_w]
                  rfl
                refine pure_ (i := 19) (N := some 145) (v := undef) (a' := ?_) #[true, true, true, true, true, true, true, true, true, true, true, true, true, true, true, true, true, true, true, true, false, false, false, false, false, false, false, false] rfl rfl (by kernel_rfl) (fun _ _ _ h => h) (Or.inr ⟨by rfl, rfl⟩) ?_ ?_
                rotate_left
                · simp only [Act.put, List.setIfInBounds_toArray, List.set_cons_zero, List.set_cons_succ, i64_w, i32_w]
                  rfl
                refine pure_ (i := 20) (N := some 146) (v := undef) (a' := ?_) #[true, true, true, true, true, true, true, true, true, true, true, true, true, true, true, true, true, true, true, true, true, false, false, false, false, false, false, false] rfl rfl (by kernel_rfl) (fun _ _ _ h => h) (Or.inr ⟨by rfl, rfl⟩) ?_ ?_
                rotate_left
                · simp only [Act.put, List.setIfInBounds_toArray, List.set_cons_zero, List.set_cons_succ, i64_w, i32_w]
                  rfl
                refine pure_ (i := 21) (N := some 147) (v := undef) (a' := ?_) #[true, true, true, true, true, true, true, true, true, true, true, true, true, true, true, true, true, true, true, true, true, true, false, false, false, false, false, false] rfl rfl (by kernel_rfl) (fun _ _ _ h => h) (Or.inr ⟨by rfl, rfl⟩) ?_ ?_
                rotate_left
                · simp only [Act.put, List.setIfInBounds_toArray, List.set_cons_zero, List.set_cons_succ, i64_w, i32_w]
                  rfl
                refine pure_ (i := 22) (N := some 148) (v := undef) (a' := ?_) #[true, true, true, true, true, true, true, true, true, true, true, true, true, true, true, true, true, true, true, true, true, true, true, false, false, false, false, false] rfl rfl (by kernel_rfl) (fun _ _ _ h => h) (Or.inr ⟨by rfl, rfl⟩) ?_ ?_
                rotate_left
                · simp only [Act.put, List.setIfInBounds_toArray, List.set_cons_zero, List.set_cons_succ, i64_w, i32_w]
                  rfl
                refine pure_ (i := 23) (N := some 149) (v := undef) (a' := ?_) #[true, true, true, true, true, true, true, true, true, true, true, true, true, true, true, true, true, true, true, true, true, true, true, true, false, false, false, false] rfl rfl (by kernel_rfl) (fun _ _ _ h => h) (Or.inr ⟨by rfl, rfl⟩) ?_ ?_
                rotate_left
                · simp only [Act.put, List.setIfInBounds_toArray, List.set_cons_zero, List.set_cons_succ, i64_w, i32_w]
                  rfl
                refine pure_ (i := 24) (N := some 150) (v := undef) (a' := ?_) #[true, true, true, true, true, true, true, true, true, true, true, true, true, true, true, true, true, true, true, true, true, true, true, true, true, false, false, false] rfl rfl (by kernel_rfl) (fun _ _ _ h => h) (Or.inr ⟨by rfl, rfl⟩) ?_ ?_
                rotate_left
                · simp only [Act.put, List.setIfInBounds_toArray, List.set_cons_zero, List.set_cons_succ, i64_w, i32_w]
                  rfl
                refine pure_ (i := 25) (N := some 151) (v := undef) (a' := ?_) #[true, true, true, true, true, true, true, true, true, true, true, true, true, true, true, true, true, true, true, true, true, true, true, true, true, true, false, false] rfl rfl (by kernel_rfl) (fun _ _ _ h => h) (Or.inr ⟨by rfl, rfl⟩) ?_ ?_
                rotate_left
                · simp only [Act.put, List.setIfInBounds_toArray, List.set_cons_zero, List.set_cons_succ, i64_w, i32_w]
                  rfl
                refine pure_ (i := 26) (N := some 152) (v := ?_) (a' := ?_) #[true, true, true, true, true, true, true, true, true, true, true, true, true, true, true, true, true, true, true, true, true, true, true, true, true, true, true, false] rfl rfl (by kernel_rfl) (fun _ _ _ h => h) (Or.inl ⟨by rfl, ?_⟩) ?_ ?_
                rotate_left
                · intro w'
                  go_simp
                  with_reducible rfl
                rotate_left
                · simp only [Act.put, List.setIfInBounds_toArray, List.set_cons_zero, List.set_cons_succ, i64_w, i32_w]
                  rfl
                refine pure_ (i := 27) (N := some 153) (v := ?_) (a' := ?_) #[true, true, true, true, true, true, true, true, true, true, true, true, true, true, true, true, true, true, true, true, true, true, true, true, true, true, true, true] rfl rfl (by kernel_rfl) (fun _ _ _ h => h) (Or.inl ⟨by rfl, ?_⟩) ?_ ?_
                rotate_left
                · intro w'
                  go_simp
                  with_reducible rfl
                rotate_left
                · simp only [Act.put, List.setIfInBounds_toArray, List.set_cons_zero, List.set_cons_succ, i64_w, i32_w]
                  rfl
                refine done_ (by kernel_rfl) ?_

                go_wp2
                exact ⟨⟨i + 1, hil, by first | rfl | (rw [Int.natCast_add]; rfl) | (rw [k5, Int.natCast_add]; rfl), ⟨by repeat (first | (with_reducible first | exact HB.out | apply below_alloc | apply pw_below_drewN | apply below_drew1) | exact HB.out)⟩, ⟨by repeat (first | (with_reducible first | exact HE.out | apply below_alloc | apply pw_below_drewN | apply below_drew1) | exact HE.out)⟩, ⟨by first | exact BKe.out | ((with_reducible repeat (first | refine blk_drewN ?_ _ | refine blk_drew ?_ | refine blk_alloc ?_ _)); exact BKe.out)⟩, ⟨by first | exact BKl.out | ((with_reducible repeat (first | refine blk_drewN ?_ _ | refine blk_drew ?_ | refine blk_alloc ?_ _)); exact BKl.out)⟩, ⟨by first | exact BKc.out | ((with_reducible repeat (first | refine blk_drewN ?_ _ | refine blk_drew ?_ | refine blk_alloc ?_ _)); exact BKc.out)⟩⟩, by (try rw [k5]); show 64 - ((i : Int) + 1).toNat < 64 - ((i : Int)).toNat; omega⟩
              · have i3 : decide ((i : Int) < 32) = false := decide_eq_false (by omega)
                have i4 : (32 : Int) ≤ (i : Int) := by omega
                have c0 : wr.cell? ⟨gc, i, none⟩ = some (.int .u8 (rd X1 ((j * 64 + i : Nat) : Int))) := c9.trans (by rw [rd_drop _ _ TKd.out.2 i (by omega), rd_blk X1 j i hil])
                have c1 : wr.cell? ⟨ge, j * 64 + i, none⟩ = some (.int .u8 (rd X1 ((j * 64 + i : Nat) : Int))) := (blk_cell BKe.out (j * 64 + i)).trans (bcells_get _ _ (by rw [LX1.out]; exact HJI))
                clear c9
                go_wp2
                refine start_ (n := 28) (S := fun w' => w'.cell? ⟨gc, i, none⟩ = some (.int .u8 (rd X1 ((j * 64 + i : Nat) : Int))) ∧ w'.cell? ⟨ge, j * 64 + i, none⟩ = some (.int .u8 (rd X1 ((j * 64 + i : Nat) : Int)))) (ds := []) #[false, false, false, false, false, false, false, false, false, false, false, false, false, false, false, false, false, false, false, false, false, false, false, false, false, false, false, false] (by kernel_rfl) rfl rfl ⟨c0, c1⟩ (fun hHeld => ?_)
                refine pure_ (i := 0) (N := some 126) (v := ?_) (a' := ?_) #[true, false, false, false, false, false, false, false, false, false, false, false, false, false, false, false, false, false, false, false, false, false, false, false, false, false, false, false] rfl rfl (by kernel_rfl) (fun _ _ _ h => h) (Or.inl ⟨by rfl, ?_⟩) ?_ ?_
                rotate_left
                · intro w'
                  go_simp
                  with_reducible rfl
                rotate_left
                · simp only [Act.put, List.setIfInBounds_toArray, List.set_cons_zero, List.set_cons_succ, i64_w, i32_w]
                  rfl
                refine pure_ (i := 1) (N := some 127) (v := ?_) (a' := ?_) #[true, true, false, false, false, false, false, false, false, false, false, false, false, false, false, false, false, false, false, false, false, false, false, false, false, false, false, false] rfl rfl (by kernel_rfl) (fun _ _ _ h => h) (Or.inl ⟨by rfl, ?_⟩) ?_ ?_
                rotate_left
                · intro w'
                  go_simp
                  with_reducible rfl
                rotate_left
                · simp only [Act.put, List.setIfInBounds_toArray, List.set_cons_zero, List.set_cons_succ, i64_w, i32_w]
                  rfl
                refine pure_ (i := 2) (N := some 128) (v := ?_) (a' := ?_) #[true, true, true, false, false, false, false, false, false, false, false, false, false, false, false, false, false, false, false, false, false, false, false, false, false, false, false, false] rfl rfl (by kernel_rfl) (fun _ _ _ h => h) (Or.inl ⟨by rfl, ?_⟩) ?_ ?_
                rotate_left
                · intro w'
                  go_simp
                  with_reducible rfl
                rotate_left
                · simp only [Act.put, List.setIfInBounds_toArray, List.set_cons_zero, List.set_cons_succ, i64_w, i32_w]
                  rfl
                refine pure_ (i := 3) (N := some 129) (v := undef) (a' := ?_) #[true, true, true, true, false, false, false, false, false, false, false, false, false, false, false, false, false, false, false, false, false, false, false, false, false, false, false, false] rfl rfl (by kernel_rfl) (fun _ _ _ h => h) (Or.inr ⟨by rfl, rfl⟩) ?_ ?_
                rotate_left
                · simp only [Act.put, List.setIfInBounds_toArray, List.set_cons_zero, List.set_cons_succ, i64_w, i32_w]
                  rfl
                refine pure_ (i := 4) (N := some 130) (v := undef) (a' := ?_) #[true, true, true, true, true, false, false, false, false, false, false, false, false, false, false, false, false, false, false, false, false, false, false, false, false, false, false, false] rfl rfl (by kernel_rfl) (fun _ _ _ h => h) (Or.inr ⟨by rfl, rfl⟩) ?_ ?_
                rotate_left
                · simp only [Act.put, List.setIfInBounds_toArray, List.set_cons_zero, List.set_cons_succ, i64_w, i32_w]
                  rfl
                refine pure_ (i := 5) (N := some 131) (v := undef) (a' := ?_) #[true, true, true, true, true, true, false, false, false, false, false, false, false, false, false, false, false, false, false, false, false, false, false, false, false, false, false, false] rfl rfl (by kernel_rfl) (fun _ _ _ h => h) (Or.inr ⟨by rfl, rfl⟩) ?_ ?_
                rotate_left
                · simp only [Act.put, List.setIfInBounds_toArray, List.set_cons_zero, List.set_cons_succ, i64_w, i32_w]
                  rfl
                refine pure_ (i := 6) (N := some 132) (v := undef) (a' := ?_) #[true, true, true, true, true, true, true, false, false, false, false, false, false, false, false, false, false, false, false, false, false, false, false, false, false, false, false, false] rfl rfl (by kernel_rfl) (fun _ _ _ h => h) (Or.inr ⟨by rfl, rfl⟩) ?_ ?_
                rotate_left
                · simp only [Act.put, List.setIfInBounds_toArray, List.set_cons_zero, List.set_cons_succ, i64_w, i32_w]
                  rfl
                refine pure_ (i := 7) (N := some 133) (v := undef) (a' := ?_) #[true, true, true, true, true, true, true, true, false, false, false, false, false, false, false, false, false, false, false, false, false, false, false, false, false, false, false, false] rfl rfl (by kernel_rfl) (fun _ _ _ h => h) (Or.inr ⟨by rfl, rfl⟩) ?_ ?_
                rotate_left
                · simp only [Act.put, List.setIfInBounds_toArray, List.set_cons_zero, List.set_cons_succ, i64_w, i32_w]
                  rfl
                refine pure_ (i := 8) (N := some 134) (v := undef) (a' := ?_) #[true, true, true, true, true, true, true, true, true, false, false, false, false, false, false, false, false, false, false, false, false, false, false, false, false, false, false, false] rfl rfl (by kernel_rfl) (fun _ _ _ h => h) (Or.inr ⟨by rfl, rfl⟩) ?_ ?_
                rotate_left
                · simp only [Act.put, List.setIfInBounds_toArray, List.set_cons_zero, List.set_cons_succ, i64_w, i32_w]
                  rfl
                refine pure_ (i := 9) (N := some 135) (v := undef) (a' := ?_) #[true, true, true, true, true, true, true, true, true, true, false, false, false, false, false, false, false, false, false, false, false, false, false, false, false, false, false, false] rfl rfl (by kernel_rfl) (fun _ _ _ h => h) (Or.inr ⟨by rfl, rfl⟩) ?_ ?_
                rotate_left
                · simp only [Act.put, List.setIfInBounds_toArray, List.set_cons_zero, List.set_cons_succ, i64_w, i32_w]
                  rfl
                refine pure_ (i := 10) (N := some 136) (v := undef) (a' := ?_) #[true, true, true, true, true, true, true, true, true, true, true, false, false, false, false, false, false, false, false, false, false, false, false, false, false, false, false, false] rfl rfl (by kernel_rfl) (fun _ _ _ h => h) (Or.inr ⟨by rfl, rfl⟩) ?_ ?_
                rotate_left
                · simp only [Act.put, List.setIfInBounds_toArray, List.set_cons_zero, List.set_cons_succ, i64_w, i32_w]
                  rfl
                refine pure_ (i := 11) (N := some 137) (v := undef) (a' := ?_) #[true, true, true, true, true, true, true, true, true, true, true, true, false, false, false, false, false, false, false, false, false, false, false, false, false, false, false, false] rfl rfl (by kernel_rfl) (fun _ _ _ h => h) (Or.inr ⟨by rfl, rfl⟩) ?_ ?_
                rotate_left
                · simp only [Act.put, List.setIfInBounds_toArray, List.set_cons_zero, List.set_cons_succ, i64_w, i32_w]
                  rfl
                refine pure_ (i := 12) (N := some 138) (v := ?_) (a' := ?_) #[true, true, true, true, true, true, true, true, true, true, true, true, true, false, false, false, false, false, false, false, false, false, false, false, false, false, false, false] rfl rfl (by kernel_rfl) (fun _ _ _ h => h) (Or.inl ⟨by rfl, ?_⟩) ?_ ?_
                rotate_left
                · intro w'
                  go_simp
                  with_reducible rfl
                rotate_left
                · simp only [Act.put, List.setIfInBounds_toArray, List.set_cons_zero, List.set_cons_succ, i64_w, i32_w]
                  rfl
                refine pure_ (i := 13) (N := some 139) (v := ?_) (a' := ?_) #[true, true, true, true, true, true, true, true, true, true, true, true, true, true, false, false, false, false, false, false, false, false, false, false, false, false, false, false] rfl rfl (by kernel_rfl) (fun _ _ _ h => h) (Or.inl ⟨by rfl, ?_⟩) ?_ ?_
                rotate_left
                · intro w'
                  go_simp
                  with_reducible rfl
                rotate_left
                · simp only [Act.put, List.setIfInBounds_toArray, List.set_cons_zero, List.set_cons_succ, i64_w, i32_w]
                  rfl
                refine pure_ (i := 14) (N := some 140) (v := ?_) (a' := ?_) #[true, true, true, true, true, true, true, true, true, true, true, true, true, true, true, false, false, false, false, false, false, false, false, false, false, false, false, false] rfl rfl (by kernel_rfl) (fun _ _ _ h => h) (Or.inl ⟨by rfl, ?_⟩) ?_ ?_
                rotate_left
                · intro w'
                  go_simp
                  with_reducible rfl
                rotate_left
                · simp only [Act.put, List.setIfInBounds_toArray, List.set_cons_zero, List.set_cons_succ, i64_w, i32_w]
                  rfl
                refine pure_ (i := 15) (N := some 141) (v := ?_) (a' := ?_) #[true, true, true, true, true, true, true, true, true, true, true, true, true, true, true, true, false, false, false, false, false, false, false, false, false, false, false, false] rfl rfl (by kernel_rfl) (fun _ _ _ h => h) (Or.inl ⟨by rfl, ?_⟩) ?_ ?_
                rotate_left
                · intro w'
                  go_simp
                  with_reducible rfl
                rotate_left
                · simp only [Act.put, List.setIfInBounds_toArray, List.set_cons_zero, List.set_cons_succ, i64_w, i32_w]
                  rfl
                refine pure_ (i := 16) (N := some 142) (v := ?_) (a' := ?_) #[true, true, true, true, true, true, true, true, true, true, true, true, true, true, true, true, true, false, false, false, false, false, false, false, false, false, false, false] rfl rfl (by kernel_rfl) (fun _ _ _ h => h) (Or.inl ⟨by rfl, ?_⟩) ?_ ?_
                rotate_left
                · intro w'
                  go_simp
                  with_reducible rfl
                rotate_left
                · simp only [Act.put, List.setIfInBounds_toArray, List.set_cons_zero, List.set_cons_succ, i64_w, i32_w]
                  rfl
                refine pure_ (i := 17) (N := some 143) (v := ?_) (a' := ?_) #[true, true, true, true, true, true, true, true, true, true, true, true, true, true, true, true, true, true, false, false, false, false, false, false, false, false, false, false] rfl rfl (by kernel_rfl) (fun _ _ _ h => h) (Or.inl ⟨by rfl, ?_⟩) ?_ ?_
                rotate_left
                · intro w'
                  go_simp
                  with_reducible rfl
                rotate_left
                · simp only [Act.put, List.setIfInBounds_toArray, List.set_cons_zero, List.set_cons_succ, i64_w, i32_w]
                  rfl
                refine pure_ (i := 18) (N := some 144) (v := ?_) (a' := ?_) #[true, true, true, true, true, true, true, true, true, true, true, true, true, true, true, true, true, true, true, false, false, false, false, false, false, false, false, false] rfl rfl (by kernel_rfl) (fun _ _ _ h => h) (Or.inl ⟨by rfl, ?_⟩) ?_ ?_
                rotate_left
                · intro w'
                  go_simp
                  with_reducible rfl
                rotate_left
                · simp only [Act.put, List.setIfInBounds_toArray, List.set_cons_zero, List.set_cons_succ, i64_w, i32_w]
                  rfl
                refine pure_ (i := 20) (N := some 146) (v := ?_) (a' := ?_) #[true, true, true, true, true, true, true, true, true, true, true, true, true, true, true, true, true, true, true, false, true, false, false, false, false, false, false, false] rfl rfl (by kernel_rfl) (fun _ _ _ h => h) (Or.inl ⟨by rfl, ?_⟩) ?_ ?_
                rotate_left
                · intro w'
                  go_simp
                  with_reducible rfl
                rotate_left
                · simp only [Act.put, List.setIfInBounds_toArray, List.set_cons_zero, List.set_cons_succ, i64_w, i32_w]
                  rfl
                refine pure_ (i := 21) (N := some 147) (v := ?_) (a' := ?_) #[true, true, true, true, true, true, true, true, true, true, true, true, true, true, true, true, true, true, true, false, true, true, false, false, false, false, false, false] rfl rfl (by kernel_rfl) (fun _ _ _ h => h) (Or.inl ⟨by rfl, ?_⟩) ?_ ?_
                rotate_left
                · intro w'
                  go_simp
                  with_reducible rfl
                rotate_left
                · simp only [Act.put, List.setIfInBounds_toArray, List.set_cons_zero, List.set_cons_succ, i64_w, i32_w]
                  rfl
                refine pure_ (i := 22) (N := some 148) (v := ?_) (a' := ?_) #[true, true, true, true, true, true, true, true, true, true, true, true, true, true, true, true, true, true, true, false, true, true, true, false, false, false, false, false] rfl rfl (by kernel_rfl) (fun _ _ _ h => h) (Or.inl ⟨by rfl, ?_⟩) ?_ ?_
                rotate_left
                · intro w'
                  go_simp
                  with_reducible rfl
                rotate_left
                · simp only [Act.put, List.setIfInBounds_toArray, List.set_cons_zero, List.set_cons_succ, i64_w, i32_w]
                  rfl
                refine pure_ (i := 23) (N := some 149) (v := ?_) (a' := ?_) #[true, true, true, true, true, true, true, true, true, true, true, true, true, true, true, true, true, true, true, false, true, true, true, true, false, false, false, false] rfl rfl (by kernel_rfl) (fun _ _ _ h => h) (Or.inl ⟨by rfl, ?_⟩) ?_ ?_
                rotate_left
                · intro w'
                  go_simp
                  with_reducible rfl
                rotate_left
                · simp only [Act.put, List.setIfInBounds_toArray, List.set_cons_zero, List.set_cons_succ, i64_w, i32_w]
                  rfl
                refine take_ (i := 19) (N := some 145) (v := ?_) (a' := ?_) #[true, true, true, true, true, true, true, true, true, true, true, true, true, true, true, true, true, true, true, true, true, true, true, true, false, false, false, false] rfl rfl (by kernel_rfl) (fun _ _ _ h => h) (Or.inl ⟨by rfl, ?_⟩) hHeld ?_ ?_
                rotate_left
                · rintro w' ⟨s0, s1⟩
                  go_simp
                  with_reducible rfl
                rotate_left
                · simp only [Act.put, List.setIfInBounds_toArray, List.set_cons_zero, List.set_cons_succ, i64_w, i32_w]
                  rfl
                refine take_ (i := 24) (N := some 150) (v := ?_) (a' := ?_) #[true, true, true, true, true, true, true, true, true, true, true, true, true, true, true, true, true, true, true, true, true, true, true, true, true, false, false, false] rfl rfl (by kernel_rfl) (fun _ _ _ h => h) (Or.inl ⟨by rfl, ?_⟩) hHeld ?_ ?_
                rotate_left
                · rintro w' ⟨s0, s1⟩
                  go_simp
                  with_reducible rfl
                rotate_left
                · simp only [Act.put, List.setIfInBounds_toArray, List.set_cons_zero, List.set_cons_succ, i64_w, i32_w]
                  rfl
                refine pure_ (i := 25) (N := some 151) (v := ?_) (a' := ?_) #[true, true, true, true, true, true, true, true, true, true, true, true, true, true, true, true, true, true, true, true, true, true, true, true, true, true, false, false] rfl rfl (by kernel_rfl) (fun _ _ _ h => h) (Or.inl ⟨by rfl, ?_⟩) ?_ ?_
                rotate_left
                · intro w'
                  go_simp
                  with_reducible rfl
                rotate_left
                · simp only [Act.put, List.setIfInBounds_toArray, List.set_cons_zero, List.set_cons_succ, i64_w, i32_w]
                  rfl
                refine pure_ (i := 26) (N := some 152) (v := ?_) (a' := ?_) #[true, true, true, true, true, true, true, true, true, true, true, true, true, true, true, true, true, true, true, true, true, true, true, true, true, true, true, false] rfl rfl (by kernel_rfl) (fun _ _ _ h => h) (Or.inl ⟨by rfl, ?_⟩) ?_ ?_
                rotate_left
                · intro w'
                  go_simp
                  with_reducible rfl
                rotate_left
                · simp only [Act.put, List.setIfInBounds_toArray, List.set_cons_zero, List.set_cons_succ, i64_w, i32_w]
                  rfl
                refine pure_ (i := 27) (N := some 153) (v := ?_) (a' := ?_) #[true, true, true, true, true, true, true, true, true, true, true, true, true, true, true, true, true, true, true, true, true, true, true, true, true, true, true, true] rfl rfl (by kernel_rfl) (fun _ _ _ h => h) (Or.inl ⟨by rfl, ?_⟩) ?_ ?_
                rotate_left
                · intro w'
                  go_simp
                  with_reducible rfl
                rotate_left
                · simp only [Act.put, List.setIfInBounds_toArray, List.set_cons_zero, List.set_cons_succ, i64_w, i32_w]
                  rfl
                refine done_ (by kernel_rfl) ?_

                go_wp2
                exact ⟨⟨i + 1, hil, by first | rfl | (rw [Int.natCast_add]; rfl) | (rw [k5, Int.natCast_add]; rfl), ⟨by repeat (first | (with_reducible first | exact HB.out | apply below_alloc | apply pw_below_drewN | apply below_drew1) | exact HB.out)⟩, ⟨by repeat (first | (with_reducible first | exact HE.out | apply below_alloc | apply pw_below_drewN | apply below_drew1) | exact HE.out)⟩, ⟨by first | exact BKe.out | ((with_reducible repeat (first | refine blk_drewN ?_ _ | refine blk_drew ?_ | refine blk_alloc ?_ _)); exact BKe.out)⟩, ⟨by first | exact BKl.out | ((with_reducible repeat (first | refine blk_drewN ?_ _ | refine blk_drew ?_ | refine blk_alloc ?_ _)); exact BKl.out)⟩, ⟨by first | exact BKc.out | ((with_reducible repeat (first | refine blk_drewN ?_ _ | refine blk_drew ?_ | refine blk_alloc ?_ _)); exact BKc.out)⟩⟩, by (try rw [k5]); show 64 - ((i : Int) + 1).toNat < 64 - ((i : Int)).toNat; omega⟩
            · have hi64 : i = 64 := by omega
              subst hi64
              go_wp2
              exact ⟨⟨j + 1, hjl, by first | rfl | (rw [Int.natCast_add]; rfl) | (rw [k4, Int.natCast_add]; rfl), HB, HE, BKe, BKl⟩, by (try rw [k4]); show 8 - ((j : Int) + 1).toNat < 8 - ((j : Int)).toNat; omega⟩
        · have hj8 : j = 8 := by omega
          subst hj8
          go_wp2_with (go_at_call 14; with_reducible refine (law_lives.calls _).mono ?_; rintro e' w' ⟨rfl, hb⟩; have n0_ := Aside0.mk (below_step (by repeat (first | (with_reducible first | exact HB.out | apply below_alloc | apply pw_below_drewN | apply below_drew1) | exact HB.out)) hb); clear HB; have HB := n0_; clear n0_ hb)
          go_ret
          exact ⟨rfl, by repeat (first | (with_reducible first | exact HB.out | apply below_alloc | apply pw_below_drewN | apply below_drew1) | exact HB.out)⟩
end Go.Proofs.Ytlnfdhcpnbhkdaa.GA.E
